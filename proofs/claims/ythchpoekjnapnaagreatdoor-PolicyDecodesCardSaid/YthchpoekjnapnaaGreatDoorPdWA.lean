/- A part of the proof of a statement of this seat (see the text that ends in Proof): LwBase, LwBitB, LwLe, LwBits, LwRef02, LwCut, LwUn, LwRice, LwDual, LwVal, LwI32, LwFil, LwUnm, LwSam, LwCrc, LwFrm, LwC64, LwWby, LwId, LwApe, LwStrip, LwLen, LwHead. No conditions of its own. -/
import Derived.Test.YthchpoekjnapnaaGreatDoorPdBA
import Derived.Test.YthchpoekjnapnaaGreatDoorPdPA
set_option linter.unusedVariables false
set_option linter.unusedSimpArgs false
namespace Go.Lv
theorem Ag {a b : Int} (h : -9223372036854775808 ≤ a + b) (h' : a + b ≤ 9223372036854775807) : Ae a b = a + b := by rw [Bux, Cf h h']
theorem Bk {a b : Int} (h : -9223372036854775808 ≤ a - b) (h' : a - b ≤ 9223372036854775807) : Am a b = a - b := by rw [Bul, Cf h h']
theorem Gt {a b : Int} (h : -9223372036854775808 ≤ a * b) (h' : a * b ≤ 9223372036854775807) : Bj a b = a * b := by rw [Bpr, Cf h h']
theorem Aeo (c : UInt8) : (Ad c : Int) = (c.toNat : Int) := by rw [Bok, Cf] <;> have := c.toNat_lt <;> omega
theorem Bik (c : UInt32) : (Ad c : Int) = (c.toNat : Int) := by rw [Blx, Cf] <;> have := c.toNat_lt <;> omega
theorem Aru (c : UInt8) : (Ad c : UInt64) = UInt64.ofNat c.toNat := by simp only [Ad, Aac, Gw]
theorem Ia (c : UInt32) : (Ad c : UInt64) = UInt64.ofNat c.toNat := by simp only [Ad, Xs, Gw]
theorem Amy (c : UInt64) : (Ad c : UInt8) = UInt8.ofNat c.toNat := by simp only [Ad, Ic, Lz]
theorem Ar9 (c : UInt32) : (Ad c : UInt8) = UInt8.ofNat c.toNat := by simp only [Ad, Xs, Lz]
theorem Aay (n : Nat) : (Ad (n : Int) : UInt64) = UInt64.ofNat n := by simp only [Ad]; exact Gw n
theorem Bb2 (n : Nat) : (Ad (n : Int) : UInt32) = UInt32.ofNat n := by simp only [Ad]; exact Er n
theorem Bn7 (n : Nat) : (Ad (n : Int) : UInt8) = UInt8.ofNat n := by simp only [Ad]; exact Lz n
theorem Aus {c : UInt64} (h : c.toNat < 9223372036854775808) : (Ad c : Int) = (c.toNat : Int) := by rw [Bl9, Cf] <;> omega
theorem Bk5 : LIM = 17179869184 := by decide
theorem Ap : 36893488147419103231 < Ba := by decide
theorem Cq {α : Type} {l : List α} {n : Nat} (h : n < l.length) : getI l (n : Int) = some l[n] := by simp [getI, h]
theorem We {α : Type} {l : List α} {n : Nat} (x : α) (h : n < l.length) : Qh l (n : Int) x = some (l.set n x) := by simp [Qh, h]
theorem Uj {α : Type} {l : List α} {a b : Int} (h : 0 ≤ a) (h1 : a ≤ b) (h2 : b ≤ l.length) : Ce l a b = some ((l.take b.toNat).drop a.toNat) := by rw [Ce, if_pos ⟨h, h1, h2⟩]
theorem Ng {α : Type} {l : List α} {a : Int} (h : 0 ≤ a) (h1 : a ≤ l.length) : Ce l a (Ac l) = some (l.drop a.toNat) := by
 unfold Ac; rw [Uj h h1 (Int.le_refl _), Int.toNat_natCast, List.take_length]
theorem Kt {α : Type} {l : List α} {b : Int} (h : 0 ≤ b) (h1 : b ≤ l.length) : Ce l 0 b = some (l.take b.toNat) := by rw [Uj (Int.le_refl _) h h1]; rfl
theorem Dc {α : Type} {l m : List α} (h : l.length + m.length ≤ 17179869184) : Fz l m = some (l ++ m) := by rw [Fz, Bk5, if_pos h]
theorem Asv {α : Type} {n : Int} {z : α} (h : 0 ≤ n) (h' : n ≤ 17179869184) : mkI n z = some (List.replicate n.toNat z) := by rw [mkI, Bk5, if_pos ⟨h, h'⟩]
theorem Bu {b : Bool} (h : b = true) : Qx b = some () := by rw [h]; rfl
theorem Aa {α β : Type} (a : α) (f : α → Option β) : Option.bind (some a) f = f a := rfl
theorem drop_cons {α : Type} {l : List α} {n : Nat} (h : n < l.length) : l.drop n = l[n] :: l.drop (n + 1) := List.drop_eq_getElem_cons h
theorem Ak4 {α : Type} {l : List α} {n : Nat} (h : n < l.length) : l.take (n + 1) = l.take n ++ [l[n]] := by rw [List.take_add_one, List.getElem?_eq_getElem h]; rfl
def Es : List UInt8 → Nat
 | [] => 0
 | x :: r => x.toNat + 256 * Es r
theorem Bcx : ∀ l : List UInt8, Es l < 256 ^ l.length
 | [] => by simp [Es]
 | x :: r => by
  have h := Bcx r
  have := x.toNat_lt
  simp only [Es, List.length_cons, Nat.pow_succ]
  omega
theorem Ays : ∀ l m : List UInt8, Es (l ++ m) = Es l + 256 ^ l.length * Es m
 | [], m => by simp [Es]
 | x :: r, m => by
  simp only [Es, List.cons_append, Ays r m, List.length_cons, Nat.pow_succ, Nat.mul_add]
  rw [Nat.mul_comm (256 ^ r.length) 256, Nat.mul_assoc]; omega
def leU (l : List UInt8) : UInt64 := UInt64.ofNat (Es l)
theorem Brf {l : List UInt8} (h : l.length ≤ 8) : Es l < 18446744073709551616 := by
 have h1 := Bcx l
 have h2 : 256 ^ l.length ≤ 256 ^ 8 := Nat.pow_le_pow_right (by omega) h
 exact Nat.lt_of_lt_of_le h1 (by simpa using h2)
theorem Bku {l : List UInt8} (h : l.length ≤ 4) : Es l < 4294967296 := by
 have h1 := Bcx l
 have h2 : 256 ^ l.length ≤ 256 ^ 4 := Nat.pow_le_pow_right (by omega) h
 exact Nat.lt_of_lt_of_le h1 (by simpa using h2)
theorem Ajw {l : List UInt8} (h : l.length ≤ 8) : (leU l).toNat = Es l := by
 rw [leU, UInt64.toNat_ofNat', Nat.mod_eq_of_lt (Brf h)]
theorem Aeu {l : List UInt8} (h : l.length ≤ 4) : (Ad (leU l) : Int) = (Es l : Int) := by
 have := Bku h
 rw [Aus] <;> rw [Ajw (by omega)]; omega
def leB (n : Nat) : Nat → List UInt8
 | 0 => []
 | w + 1 => UInt8.ofNat n :: leB (n / 256) w
theorem Nh : ∀ (w n : Nat), (leB n w).length = w
 | 0, _ => rfl
 | w + 1, n => by simp [leB, Nh w]
theorem Bfx : ∀ (w n : Nat), leB n (w + 1) = leB n w ++ [UInt8.ofNat (n / 256 ^ w)]
 | 0, n => by simp [leB]
 | w + 1, n => by
  rw [leB, Bfx w (n / 256), leB]
  simp [Nat.div_div_eq_div_mul, Nat.pow_succ, Nat.mul_comm]
end Go.Lv
set_option linter.unusedVariables false
set_option linter.unusedSimpArgs false
namespace Go.Lv
def Kb (p : List UInt8) (i : Nat) : Nat := (p.getD (i / 8) 0).toNat / 2 ^ (i % 8) % 2
theorem Yx (p : List UInt8) (i : Nat) : Kb p i < 2 := Nat.mod_lt _ (by omega)
def Cd (p : List UInt8) : Nat → Nat → Nat
 | _, 0 => 0
 | a, n + 1 => Kb p a + 2 * Cd p (a + 1) n
theorem Ry (p : List UInt8) : ∀ (n a : Nat), Cd p a n < 2 ^ n
 | 0, _ => by simp [Cd]
 | n + 1, a => by
  have := Ry p n (a + 1)
  have := Yx p a
  rw [Cd, Nat.pow_succ]; omega
theorem Ai6 (p : List UInt8) : ∀ (m n a : Nat), Cd p a (m + n) = Cd p a m + 2 ^ m * Cd p (a + m) n
 | 0, n, a => by simp [Cd]
 | m + 1, n, a => by
  rw [show m + 1 + n = (m + n) + 1 by omega, Cd, Cd, Ai6 p m n (a + 1), show a + 1 + m = a + (m + 1) by omega, Nat.pow_succ, Nat.mul_add, Nat.mul_comm (2 ^ m) 2, Nat.mul_assoc]; omega
theorem Bgh (p : List UInt8) (a : Nat) : Cd p a 1 = Kb p a := by simp [Cd]
theorem Bbe (p : List UInt8) (a n : Nat) : Cd p a (n + 1) = Cd p a n + 2 ^ n * Kb p (a + n) := by rw [Ai6 p n 1 a, Bgh]
theorem Aue (p : List UInt8) (a : Nat) : ∀ t : Nat, a % 8 + t ≤ 8 → Cd p a t = (p.getD (a / 8) 0).toNat / 2 ^ (a % 8) % 2 ^ t
 | 0, _ => by simp [Cd, Nat.mod_one]
 | t + 1, h => by
  have h1 : (a + t) / 8 = a / 8 := by omega
  have h2 : (a + t) % 8 = a % 8 + t := by omega
  rw [Bbe, Aue p a t (by omega), Kb, h1, h2, Nat.mod_pow_succ, Nat.pow_add, Nat.div_div_eq_div_mul]
theorem Bbw {p : List UInt8} : ∀ (n a : Nat), (∀ k, k < n → Kb p (a + k) = 0) → Cd p a n = 0
 | 0, _, _ => rfl
 | n + 1, a, h => by
  have h0 := h 0 (by omega)
  rw [Cd, Bbw n (a + 1) fun k hk => by have := h (k + 1) (by omega); rwa [show a + 1 + k = a + (k + 1) by omega]]
  rw [Nat.add_zero] at h0; omega
def okB (p : List UInt8) (n : Nat) : Prop := n ≤ 330000 ∧ p.length = (n + 7) / 8 ∧ ∀ k, n ≤ k → k < 8 * p.length → Kb p k = 0
def Aeg (p : List UInt8) (a n : Nat) : List UInt8 := (List.range ((n + 7) / 8)).map fun j => UInt8.ofNat (Cd p (a + 8 * j) (min 8 (n - 8 * j)))
theorem Nr (p : List UInt8) (a n : Nat) : (Aeg p a n).length = (n + 7) / 8 := by simp [Aeg]
theorem Bhf (p : List UInt8) : ∀ (n a k : Nat), k < n → Cd p a n / 2 ^ k % 2 = Kb p (a + k)
 | n + 1, a, 0, _ => by have := Yx p a; rw [Cd]; simp; omega
 | n + 1, a, k + 1, h => by
  have hb := Yx p a
  have e : (Kb p a + 2 * Cd p (a + 1) n) / 2 = Cd p (a + 1) n := by omega
  rw [Cd, Nat.pow_succ, Nat.mul_comm (2 ^ k) 2, ← Nat.div_div_eq_div_mul, e, Bhf p n (a + 1) k (by omega), show a + 1 + k = a + (k + 1) by omega]
theorem Bnb (p : List UInt8) (n a k : Nat) (h : n ≤ k) : Cd p a n / 2 ^ k % 2 = 0 := by
 have := Ry p n a
 rw [Nat.div_eq_of_lt (Nat.lt_of_lt_of_le this (Nat.pow_le_pow_right (by omega) h))]
theorem Bnk (p : List UInt8) (a n k : Nat) : Kb (Aeg p a n) k = if k < n then Kb p (a + k) else 0 := by
 rw [Kb]
 by_cases hj : k / 8 < (n + 7) / 8
 ·have e : (Aeg p a n).getD (k / 8) 0 = UInt8.ofNat (Cd p (a + 8 * (k / 8)) (min 8 (n - 8 * (k / 8)))) := by
   rw [List.getD_eq_getElem?_getD, List.getElem?_eq_getElem (by rw [Nr]; exact hj)]; simp [Aeg]
  have hlt : Cd p (a + 8 * (k / 8)) (min 8 (n - 8 * (k / 8))) < 256 := by
   have := Ry p (min 8 (n - 8 * (k / 8))) (a + 8 * (k / 8))
   have h2 : 2 ^ (min 8 (n - 8 * (k / 8))) ≤ 2 ^ 8 := Nat.pow_le_pow_right (by omega) (by omega)
   omega
  have hu : (UInt8.ofNat (Cd p (a + 8 * (k / 8)) (min 8 (n - 8 * (k / 8))))).toNat = Cd p (a + 8 * (k / 8)) (min 8 (n - 8 * (k / 8))) := by
   rw [UInt8.toNat_ofNat']; exact Nat.mod_eq_of_lt hlt
  rw [e, hu]
  by_cases hk : k < n
  ·rw [if_pos hk, Bhf p _ _ _ (by omega), show a + 8 * (k / 8) + k % 8 = a + k by omega]
  ·rw [if_neg hk, Bnb p _ _ _ (by omega)]
 ·have e : (Aeg p a n).getD (k / 8) 0 = 0 := by
   rw [List.getD_eq_getElem?_getD, List.getElem?_eq_none (by rw [Nr]; omega)]; rfl
  rw [e, if_neg (by omega)]; simp
theorem Bko (p : List UInt8) (a n : Nat) (h : n ≤ 330000) : okB (Aeg p a n) n := ⟨h, Nr p a n, fun k hk _ => by rw [Bnk, if_neg (by omega)]⟩
end Go.Lv
set_option linter.unusedVariables false
set_option linter.unusedSimpArgs false
namespace Go.Pl
open Go Go.Lv
theorem Bo5 (b : List UInt8) (hb : b.length < 4611686018427387904) : ∀ (j q : Nat), j ≤ b.length → j < q → It b q (leU (b.drop j)) ((j : Int) - 1) = some (leU b)
 | 0, q + 1, _, _ => by
  rw [It, Rr, if_neg (by rw [Dz]; simp)]
  simp [Zt, Ahr]
 | j + 1, q + 1, hj, hq => by
  rw [It, Rr, if_pos (by rw [Dz]; simp), show ((j + 1 : Nat) : Int) - 1 = (j : Int) by omega, Cq (by omega), Aa, Bk (by omega) (by omega)]
  have h : Ae (Bj (256 : UInt64) (leU (b.drop (j + 1)))) (Ad b[j] : UInt64) = leU (b.drop j) := by
   rw [Afj, Af0, Aru, drop_cons (n := j) (by omega), leU, leU, Es, UInt64.ofNat_add, UInt64.ofNat_mul]
   exact UInt64.add_comm _ _
  rw [h]
  exact Bo5 b hb j q (by omega) (by omega)
theorem Bf5 (b : List UInt8) (hb : b.length < 4611686018427387904) : Ao b = some (leU b) := by
 have h := Bo5 b hb b.length Ba (Nat.le_refl _) (by have := Ap; omega)
 rw [Ao, Aah, Zw]
 have e : Am (Ac b) 1 = (b.length : Int) - 1 := Bk (by unfold Ac; omega) (by unfold Ac; omega)
 rw [e, ← h, List.drop_length]; rfl
theorem Bne {n c : UInt64} {i : Nat} (hn : n.toNat < 2 ^ i) (hc : c.toNat * 2 ^ i < 18446744073709551616) : gor n (Eo c i) = UInt64.ofNat (n.toNat + c.toNat * 2 ^ i) := by
 rw [Brp]; apply UInt64.toNat_inj.1
 rw [UInt64.toNat_or, Al7, Nat.mod_eq_of_lt hc, Nat.mul_comm, Nat.or_comm, ← Nat.two_pow_add_eq_or_of_lt hn, UInt64.toNat_ofNat', Nat.mod_eq_of_lt, Nat.add_comm, Nat.mul_comm]
 have h := Nat.two_pow_add_eq_or_of_lt hn c.toNat
 have h2 : 2 ^ i * c.toNat + n.toNat < 2 ^ 64 := by
  rw [h]
  exact Nat.or_lt_two_pow (by rw [Nat.mul_comm]; simpa using hc) n.toNat_lt
 rw [Nat.add_comm]; first | exact h2 | (rw [Nat.mul_comm]; exact h2)
theorem Bby (b : List UInt8) (hb : b.length ≤ 8) : ∀ (j i q : Nat), i + j = b.length → j < q → Aam b q (leU (b.take i)) (i : Int) = some (leU b, 0)
 | 0, i, q + 1, hi, _ => by
  rw [Aam, Ajl, if_neg (by rw [Af, Ac]; simp; omega), show i = b.length by omega, List.take_length]; rfl
 | j + 1, i, q + 1, hi, hq => by
  have hlt : i < b.length := by omega
  rw [Aam, Ajl, if_pos (by rw [Af, Ac]; simp; omega), Cq hlt, Aa, Gt (by omega) (by omega), Bu (by rw [Dz]; simp; omega), Aa, Ag (by omega) (by omega)]
  have h : gor (leU (b.take i)) (Eo (Ad b[i] : UInt64) (GI.toZ ((8 : Int) * (i : Int))).toNat) = leU (b.take (i + 1)) := by
   have e : (GI.toZ ((8 : Int) * (i : Int))).toNat = 8 * i := by show ((8 : Int) * (i : Int)).toNat = _; omega
   have e2 : (2 : Nat) ^ (8 * i) = 256 ^ i := by rw [Nat.pow_mul]
   have h1 := Bcx (b.take i)
   rw [List.length_take, Nat.min_eq_left (by omega)] at h1
   have h3 := b[i].toNat_lt
   have hle : (256 : Nat) ^ (i + 1) ≤ 256 ^ 8 := Nat.pow_le_pow_right (by omega) (by omega)
   rw [Nat.pow_succ] at hle
   have h4 : (Ad b[i] : UInt64).toNat = b[i].toNat := by rw [Aru, UInt64.toNat_ofNat']; omega
   have h5 : b[i].toNat * 256 ^ i < 18446744073709551616 := by
    have : b[i].toNat * 256 ^ i < 256 * 256 ^ i := Nat.mul_lt_mul_of_pos_right (by simpa using h3) (Nat.pow_pos (by omega))
    simp at hle; omega
   rw [e, Bne (by rw [Ajw (by simp; omega), e2]; exact h1) (by rw [h4, e2]; exact h5), Ajw (by simp; omega), h4, e2, Ak4 hlt]
   rw [leU, Ays]
   simp only [Es, List.length_take, Nat.min_eq_left (Nat.le_of_lt hlt), Nat.mul_zero, Nat.add_zero]
   rw [Nat.mul_comm]
  rw [h]
  exact Bby b hb j (i + 1) q (by omega) (by omega)
theorem Bf3 (b : List UInt8) (h1 : 1 ≤ b.length) (h2 : b.length ≤ 8) : Aoe b = some (leU b, 0) := by
 have h := Bby b h2 b.length 0 Ba (by omega) (by have := Ap; omega)
 rw [Aoe, Aop, if_neg (by simp [Af, Au, Ac]; omega), Aox]
 exact h
def part (b : List UInt8) (at' w : Nat) : List UInt8 := (b.take (at' + w)).drop at'
theorem Ds {b : List UInt8} {a w : Nat} (h : a + w ≤ b.length) : (part b a w).length = w := by simp [part]; omega
theorem Bb7 (b : List UInt8) (a w : Nat) (h1 : 1 ≤ w) (h2 : w ≤ 8) (h3 : a + w ≤ b.length) (hb : b.length < 4611686018427387904) : Alh b (a : Int) (w : Int) = some (leU (part b a w), 0) := by
 rw [Alh, if_neg (by simp [Af, Au]; omega), if_neg (by rw [Au, Bk (by unfold Ac; omega) (by unfold Ac; omega), Ac]; simp; omega), Ag (by omega) (by omega), Uj (by omega) (by omega) (by omega), Aa]
 rw [show ((a : Int) + (w : Int)).toNat = a + w by omega, show (a : Int).toNat = a by omega]
 rw [Bf3 _ (by rw [show ((b.take (a + w)).drop a).length = _ from Ds h3]; exact h1) (by rw [show ((b.take (a + w)).drop a).length = _ from Ds h3]; exact h2), Aa]; rfl
theorem Au1 (w : Nat) (hw : w ≤ 1000) : ∀ (j i q : Nat) (n : UInt64) (acc : List UInt8), i + j = w → j < q → acc.length + j ≤ 1000000 → Fb (w : Int) q n (i : Int) acc = some (acc ++ leB n.toNat j)
 | 0, i, q + 1, n, acc, hi, _, _ => by
  rw [Fb, Jm, if_neg (by rw [Af]; simp; omega)]
  simp [Rc, Aan, leB]
 | j + 1, i, q + 1, n, acc, hi, hq, ha => by
  rw [Fb, Jm, if_pos (by rw [Af]; simp; omega)]
  have e : (Ad (Abb n (256 : UInt64)) : UInt8) = UInt8.ofNat n.toNat := by
   rw [Amy, Bgb]; apply UInt8.toNat_inj.1
   rw [UInt8.toNat_ofNat', UInt8.toNat_ofNat', UInt64.toNat_mod]
   show n.toNat % 256 % 256 = _
   omega
  have e2 : (Bs n (256 : UInt64)).toNat = n.toNat / 256 := by rw [Asg, UInt64.toNat_div]; rfl
  rw [Dc (by simp; omega), Aa, Ag (by omega) (by omega), e]
  have h := Au1 w hw j (i + 1) q (Bs n 256) (acc ++ [UInt8.ofNat n.toNat]) (by omega) (by omega) (by simp; omega)
  rw [e2] at h
  rw [show ((i : Int) + 1) = ((i + 1 : Nat) : Int) by omega, h, leB]; simp
theorem Ay3 (n : UInt64) (w : Nat) (hw : w ≤ 1000) : Dl n (w : Int) = some (leB n.toNat w) := by
 rw [Dl, Qq, Rg]
 have h := Au1 w hw w 0 Ba n [] (by omega) (by have := Ap; omega) (by simp; omega)
 simpa using h
theorem Aqr {α : Type} {l m : List α} {x y : α} {i : Nat} (h : l.length = i) : (l ++ x :: m).set i y = l ++ y :: m := by subst h; simp
theorem Bce (n : UInt64) (l4 : List UInt8) (w : Nat) (hl : l4.length = w) (hw : w ≤ 8) : ∀ (j i q : Nat), i + j = w → j < q → Aa2 n l4 q (i : Int) (leB n.toNat i ++ List.replicate j 0) = some (leB n.toNat w, 0)
 | 0, i, q + 1, hi, _ => by
  rw [Aa2, Ajs, if_neg (by rw [Af, Ac]; simp; omega)]
  obtain rfl : i = w := by omega
  simp [Apn, Av1]
 | j + 1, i, q + 1, hi, hq => by
  have hlen : (leB n.toNat i ++ List.replicate (j + 1) 0).length = i + (j + 1) := by simp [Nh]
  rw [Aa2, Ajs, if_pos (by rw [Af, Ac]; simp; omega), Gt (by omega) (by omega), Bu (by rw [Dz]; simp; omega), Aa, Cq (by rw [hlen]; omega), Aa, We _ (by rw [hlen]; omega), Aa, Ag (by omega) (by omega)]
  have e : (Ad (Db n (GI.toZ ((8 : Int) * (i : Int))).toNat) : UInt8) = UInt8.ofNat (n.toNat / 256 ^ i) := by
   have e : (GI.toZ ((8 : Int) * (i : Int))).toNat = 8 * i := by show ((8 : Int) * (i : Int)).toNat = _; omega
   rw [e, Amy, Afs, Nat.pow_mul]
  rw [e, List.replicate_succ, Aqr (Nh _ _)]
  have h := Bce n l4 w hl hw j (i + 1) q (by omega) (by omega)
  rw [Bfx] at h
  simpa using h
theorem Bq2 (n : UInt64) (w : Nat) (h1 : 1 ≤ w) (h2 : w ≤ 8) (h : n.toNat < 256 ^ w) : Awi n (w : Int) = some true := by
 rw [Awi]
 by_cases h8 : w = 8
 ·subst h8; rw [if_pos (by rw [Bg]; rfl)]
 ·rw [if_neg (by rw [Bg]; simp; omega), Gt (by omega) (by omega), Bu (by rw [Dz]; simp; omega), Aa]
  have e : (GI.toZ ((8 : Int) * (w : Int))).toNat = 8 * w := by show ((8 : Int) * (w : Int)).toNat = _; omega
  rw [e, Awq]
  have : Db n (8 * w) = 0 := by
   apply UInt64.toNat_inj.1
   rw [Afs, Nat.pow_mul]
   exact Nat.div_eq_of_lt h
  rw [this]; rfl
theorem Bfe (n : UInt64) (w : Nat) (h1 : 1 ≤ w) (h2 : w ≤ 8) (h : n.toNat < 256 ^ w) : Aoo n (w : Int) = some (leB n.toNat w, 0) := by
 rw [Aoo, Apw, if_neg (by simp [Af, Au]; omega), Bq2 n w h1 h2 h, Aa, if_neg (by simp), Asv (by omega) (by omega), Aa, Bu (by rw [Bg]; simp), Aa, Apx]
 have h := Bce n (List.replicate (w : Int).toNat 0) w (by simp) h2 w 0 Ba (by omega) (by have := Ap; omega)
 simpa [leB] using h
end Go.Pl
set_option linter.unusedVariables false
set_option linter.unusedSimpArgs false
namespace Go.Pl
open Go Go.Lv
theorem Bhg (n : Nat) (h : n < 4611686018427387904) : Iu (n : Int) (7 : Int) = ((n % 8 : Nat) : Int) := by
 have e : Iu (n : Int) (7 : Int) = wrap64 ((BitVec.ofInt 64 (n : Int) &&& BitVec.ofInt 64 7).toNat : Int) := rfl
 rw [e, BitVec.toNat_and, BitVec.toNat_ofInt, BitVec.toNat_ofInt]
 have h1 : ((n : Int) % ((2 ^ 64 : Nat) : Int)).toNat = n := by omega
 have h2 : ((7 : Int) % ((2 ^ 64 : Nat) : Int)).toNat = 2 ^ 3 - 1 := by decide
 rw [h1, h2, Nat.and_two_pow_sub_one_eq_mod, Cf (by omega) (by omega)]
theorem Bwi (n : Nat) : Bco (n : Int) (GI.toZ (3 : UInt64)).toNat = ((n / 8 : Nat) : Int) := by
 have e : Bco (n : Int) (GI.toZ (3 : UInt64)).toNat = (n : Int).fdiv 8 := rfl
 rw [e, Int.fdiv_eq_ediv_of_nonneg _ (by omega)]; omega
theorem Bv6 {t : Nat} (h : t ≤ 8) : Am (Eo (1 : UInt8) t) (1 : UInt8) = UInt8.ofNat (2 ^ t - 1) := by
 have : t = 0 ∨ t = 1 ∨ t = 2 ∨ t = 3 ∨ t = 4 ∨ t = 5 ∨ t = 6 ∨ t = 7 ∨ t = 8 := by omega
 rcases this with rfl | rfl | rfl | rfl | rfl | rfl | rfl | rfl | rfl <;> decide
theorem bitsOf (c : UInt8) (off t : Nat) (h : t ≤ 8) : (Iu (Db c off) (Am (Eo (1 : UInt8) t) (1 : UInt8))).toNat = c.toNat / 2 ^ off % 2 ^ t := by
 have hp : 2 ^ t ≤ 2 ^ 8 := Nat.pow_le_pow_right (by omega) h
 rw [Bv6 h, Bsy, UInt8.toNat_and, Bji, UInt8.toNat_ofNat', Nat.mod_eq_of_lt (by have := Nat.pow_pos (n := t) (show 0 < 2 by omega); omega), Nat.and_two_pow_sub_one_eq_mod]
theorem Ax0 {p : List UInt8} {k : Nat} (h : k < p.length) : getI p (k : Int) = some (p.getD k 0) := by
 rw [Cq h]; simp [List.getD_eq_getElem?_getD, h]
def Wl (p : List UInt8) (a n : Nat) : UInt64 := UInt64.ofNat (Cd p a n)
theorem Acd (p : List UInt8) (a n : Nat) (h : n ≤ 64) : (Wl p a n).toNat = Cd p a n := by
 have h1 := Ry p n a
 have h2 : 2 ^ n ≤ 2 ^ 64 := Nat.pow_le_pow_right (by omega) h
 rw [Wl, UInt64.toNat_ofNat', Nat.mod_eq_of_lt (by omega)]
theorem Bgr (p : List UInt8) (N : Int) (a n : Nat) (hn : n ≤ 64) (ha : a + n ≤ 8 * p.length) (hp : p.length ≤ 1000000) : ∀ (j h q : Nat), h + j = n → j < q → Aft (a : Int) (n : Int) p N q (Wl p a h) (h : Int) = some (Wl p a n)
 | j, h, q + 1, hj, hq => by
  rw [Aft, Aoi]
  by_cases hlt : h < n
  ·have e1 : Ae (a : Int) (h : Int) = ((a + h : Nat) : Int) := by rw [Ag (by omega) (by omega)]; omega
   have e2 : Hf (Am (n : Int) (h : Int)) (Am (8 : Int) (((a + h) % 8 : Nat) : Int)) = ((min (n - h) (8 - (a + h) % 8) : Nat) : Int) := by
    rw [Akj, Bk (by omega) (by omega), Bk (by omega) (by omega)]; omega
   have hm : (a + h) / 8 < p.length := by omega
   rw [if_pos (by rw [Af]; simp; omega), e1, Bwi, Ax0 hm, Aa, Bhg _ (by omega), Bu (by rw [Dz]; simp; omega), Aa, e2, Bu (by rw [Dz]; simp), Aa, Bu (by rw [Dz]; simp), Aa]
   generalize hT : min (n - h) (8 - (a + h) % 8) = T
   have hT8 : T ≤ 8 := by omega
   have hT1 : 1 ≤ T := by omega
   have hb : (a + h) % 8 + T ≤ 8 := by omega
   have hv := Aue p (a + h) T hb
   have z1 : (GI.toZ (((a + h) % 8 : Nat) : Int)).toNat = (a + h) % 8 := rfl
   have z2 : (GI.toZ ((T : Nat) : Int)).toNat = T := rfl
   have z3 : (GI.toZ ((h : Nat) : Int)).toNat = h := rfl
   rw [z1, z2, z3]
   have hx : (Ad (Iu (Db (p.getD ((a + h) / 8) 0) ((a + h) % 8)) (Am (Eo (1 : UInt8) T) (1 : UInt8))) : UInt64).toNat = Cd p (a + h) T := by
    rw [Aru, UInt64.toNat_ofNat', bitsOf _ _ _ hT8, ← hv]
    have := Ry p T (a + h)
    have h2 : 2 ^ T ≤ 2 ^ 8 := Nat.pow_le_pow_right (by omega) hT8
    omega
   have hlt2 := Ry p (h + T) a
   rw [Ai6] at hlt2
   have h64 : 2 ^ (h + T) ≤ 2 ^ 64 := Nat.pow_le_pow_right (by omega) (by omega)
   have hor : gor (Wl p a h) (Eo (Ad (Iu (Db (p.getD ((a + h) / 8) 0) ((a + h) % 8)) (Am (Eo (1 : UInt8) T) (1 : UInt8))) : UInt64) h) = Wl p a (h + T) := by
    rw [Bne (by rw [Acd p a h (by omega)]; exact Ry p h a) (by rw [hx, Nat.mul_comm]; omega), hx, Acd p a h (by omega), Wl, Ai6, Nat.mul_comm (2 ^ h)]
   rw [hor, Ag (by omega) (by omega), show (h : Int) + ((T : Nat) : Int) = ((h + T : Nat) : Int) by omega]
   exact Bgr p N a n hn ha hp (j - T) (h + T) q (by omega) (by omega)
  ·rw [if_neg (by rw [Af]; simp; omega), show h = n by omega]; rfl
theorem get_eq (p : List UInt8) (N : Int) (a n : Nat) (hn : n ≤ 64) (ha : a + n ≤ 8 * p.length) (hp : p.length ≤ 1000000) : Asq p N (a : Int) (n : Int) = some (Wl p a n) := by
 have := Bgr p N a n hn ha hp n 0 Ba (by omega) (by have := Ap; omega)
 exact this
theorem Ahm {p : List UInt8} {n : Nat} (h : okB p n) : Sp p (n : Int) = some 0 := by
 obtain ⟨h1, h2, h3⟩ := h
 have e7 : Ae (n : Int) 7 = ((n + 7 : Nat) : Int) := by rw [Ag (by omega) (by omega)]; omega
 rw [Sp, e7, Bwi, if_neg (by simp [Af, Au, Ah, Ac, h2]; omega), Bhg _ (by omega)]
 by_cases hz : n % 8 = 0
 ·rw [if_neg (by rw [Au]; simp; omega)]
 ·have el : Am (Ac p) 1 = ((p.length - 1 : Nat) : Int) := by rw [Ac, Bk (by omega) (by omega)]; omega
  rw [if_pos (by rw [Au]; simp; omega), el, Ax0 (by omega), Aa, Bu (by rw [Dz]; simp; omega), Aa]
  have z : (GI.toZ ((n % 8 : Nat) : Int)).toNat = n % 8 := rfl
  have hs : Db (p.getD (p.length - 1) 0) (n % 8) = 0 := by
   apply UInt8.toNat_inj.1
   rw [Bji]
   have hv := Aue p n (8 - n % 8) (by omega)
   have h0 : Cd p n (8 - n % 8) = 0 := Bbw _ _ fun k hk => h3 _ (by omega) (by omega)
   rw [h0, show n / 8 = p.length - 1 by omega] at hv
   have hlt : (p.getD (p.length - 1) 0).toNat / 2 ^ (n % 8) < 2 ^ (8 - n % 8) := by
    have := (p.getD (p.length - 1) 0).toNat_lt
    rw [Nat.div_lt_iff_lt_mul (Nat.pow_pos (by omega)), ← Nat.pow_add, show 8 - n % 8 + n % 8 = 8 by omega]; simpa using this
   rw [Nat.mod_eq_of_lt hlt] at hv
   exact hv.symm
  rw [z, hs, if_neg (by rw [Biq]; simp)]
theorem Auj {p : List UInt8} {N : Nat} (h : okB p N) (a n : Nat) (hn : n ≤ 64) : Aca p (N : Int) (a : Int) (n : Int) = some (if N < a + n then (0, 24) else (Wl p a n, 0)) := by
 obtain ⟨h1, h2, h3⟩ := h
 rw [Aca, Ahm ⟨h1, h2, h3⟩, Aa, if_neg (by rw [Ah]; simp), if_neg (by simp [Af, Au]; omega), Bk (by omega) (by omega)]
 by_cases hl : N < a + n
 ·rw [if_pos (by rw [Au]; simp; omega), if_pos hl]
 ·rw [if_neg (by rw [Au]; simp; omega), get_eq p N a n hn (by omega) (by omega), Aa, if_neg hl]
end Go.Pl
set_option linter.unusedVariables false
set_option linter.unusedSimpArgs false
namespace Go.Pl
open Go Go.Lv
theorem Bw7 (c : Nat) (h : c < 4611686018427387904) : Bs (c : Int) (2 : Int) = ((c / 2 : Nat) : Int) := by
 rw [Af8, Int.tdiv_eq_ediv_of_nonneg (by omega), Cf (by omega) (by omega)]; omega
theorem Bvt (c : Nat) (h : c < 4611686018427387904) : Bs (c : Int) (8 : Int) = ((c / 8 : Nat) : Int) := by
 rw [Af8, Int.tdiv_eq_ediv_of_nonneg (by omega), Cf (by omega) (by omega)]; omega
theorem Bnz (c : Nat) : Jd (c : Int) (8 : Int) = ((c % 8 : Nat) : Int) := by rw [Jd, Int.tmod_eq_emod_of_nonneg (by omega)]; omega
theorem Bwy (c : Nat) : Jd (c : Int) (2 : Int) = ((c % 2 : Nat) : Int) := by rw [Jd, Int.tmod_eq_emod_of_nonneg (by omega)]; omega
theorem Bj2 (i c : Nat) (hc : c < 256) : ∀ (j k q : Nat), k + j = i % 8 → j < q → Ir (i : Int) q ((c / 2 ^ k : Nat) : Int) (k : Int) = some (((c / 2 ^ (i % 8) % 2 : Nat) : Int))
 | 0, k, q + 1, hk, _ => by
  rw [Ir, Rv, Bnz, if_neg (by rw [Af]; simp; omega), Aad, Aia, Bwy, show k = i % 8 by omega]
 | j + 1, k, q + 1, hk, hq => by
  have hle : c / 2 ^ k ≤ c := Nat.div_le_self _ _
  rw [Ir, Rv, Bnz, if_pos (by rw [Af]; simp; omega), Bw7 _ (by omega), Ag (by omega) (by omega), Nat.div_div_eq_div_mul, ← Nat.pow_succ]
  exact Bj2 i c hc j (k + 1) q (by omega) (by omega)
theorem Auv (p : List UInt8) (N : Int) (i : Nat) (h : i / 8 < p.length) (hi : i < 4611686018427387904) : Hz p N (i : Int) = some ((Kb p i : Nat) : Int) := by
 have hc := (p.getD (i / 8) 0).toNat_lt
 have := Bj2 i (p.getD (i / 8) 0).toNat (by simpa using hc) (i % 8) 0 Ba (by omega) (by have := Ap; omega)
 rw [Hz, Zu, Bvt _ hi, Ax0 h, Aa, Aeo, Aab]
 simpa [Kb] using this
theorem Azl (p : List UInt8) (N : Int) (a n : Nat) (ha : a + n ≤ 8 * p.length) (hp : p.length ≤ 1000000) : ∀ (j q : Nat), j ≤ n → j < q → Ge (a : Int) p N q (Wl p (a + j) (n - j)) ((j : Int) - 1) = some (Wl p a n)
 | 0, q + 1, _, _ => by
  rw [Ge, Md, if_neg (by rw [Dz]; simp)]; rfl
 | j + 1, q + 1, hj, hq => by
  have hb := Yx p (a + j)
  rw [Ge, Md, show ((j + 1 : Nat) : Int) - 1 = (j : Int) by omega, if_pos (by rw [Dz]; simp), Ag (a := (a : Int)) (by omega) (by omega), show (a : Int) + (j : Int) = ((a + j : Nat) : Int) by omega, Auv p N (a + j) (by omega) (by omega), Aa, Bk (by omega) (by omega)]
  have e : Ae (Bj (2 : UInt64) (Wl p (a + (j + 1)) (n - (j + 1)))) (Ad ((Kb p (a + j) : Nat) : Int) : UInt64) = Wl p (a + j) (n - j) := by
   rw [Afj, Af0, Aay, Wl, Wl, show n - j = (n - (j + 1)) + 1 by omega, Cd, show a + j + 1 = a + (j + 1) by omega, UInt64.ofNat_add, UInt64.ofNat_mul]
   exact UInt64.add_comm _ _
  rw [e]
  exact Azl p N a n ha hp j q (by omega) (by omega)
theorem Ar3 (p : List UInt8) (N : Int) (a n : Nat) (ha : a + n ≤ 8 * p.length) (hp : p.length ≤ 1000000) : Lq p N (a : Int) (n : Int) = some (Wl p a n) := by
 have := Azl p N a n ha hp n Ba (Nat.le_refl _) (by have := Ap; omega)
 have hz : Wl p (a + n) (n - n) = 0 := by rw [Nat.sub_self]; rfl
 rw [hz] at this
 rw [Lq, Ul, Ua, Bk (by omega) (by omega)]
 exact this
theorem Bkq (bit : Int) (N : Nat) (l : List UInt8) : ∀ (j k q : Nat), k + j = N % 8 → j < q → Hx bit (N : Int) l q ((2 ^ k : Nat) : Int) (k : Int) = Ps bit ((2 ^ (N % 8) : Nat) : Int) (N : Int) l
 | 0, k, q + 1, hk, _ => by
  rw [Hx, Pp, Bnz, if_neg (by rw [Af]; simp; omega), show k = N % 8 by omega]
 | j + 1, k, q + 1, hk, hq => by
  have hp : 2 ^ k ≤ 2 ^ 8 := Nat.pow_le_pow_right (by omega) (by omega)
  have e : Bj ((2 ^ k : Nat) : Int) 2 = ((2 ^ (k + 1) : Nat) : Int) := by
   rw [Nat.pow_succ]
   generalize 2 ^ k = K at *
   rw [Gt (by omega) (by omega)]; omega
  rw [Hx, Pp, Bnz, if_pos (by rw [Af]; simp; omega), e, Ag (by omega) (by omega)]
  exact Bkq bit N l j (k + 1) q (by omega) (by omega)
theorem Ayq (p : List UInt8) (a n j : Nat) (h : j < (n + 7) / 8) : (Aeg p a n)[j]'(by rw [Nr]; exact h) = UInt8.ofNat (Cd p (a + 8 * j) (min 8 (n - 8 * j))) := by simp [Aeg]
theorem Bgo (p : List UInt8) (a t : Nat) (h : t ≤ 8) : Cd p a t < 256 := by
 have h1 := Ry p t a
 have h2 : 2 ^ t ≤ 2 ^ 8 := Nat.pow_le_pow_right (by omega) h
 omega
def room (p : List UInt8) (a n : Nat) : List UInt8 := if n % 8 = 0 then Aeg p a n ++ [0] else Aeg p a n
theorem Zc (p : List UInt8) (a n : Nat) : (room p a n).length = n / 8 + 1 := by
 rw [room]; split <;> simp [Nr] <;> omega
theorem Bev (p : List UInt8) (a n j : Nat) (h : j < n / 8 + 1) : (room p a n)[j]'(by rw [Zc]; exact h) = UInt8.ofNat (Cd p (a + 8 * j) (min 8 (n - 8 * j))) := by
 have h0 : (room p a n)[j]? = some (UInt8.ofNat (Cd p (a + 8 * j) (min 8 (n - 8 * j)))) := by
  rw [room]
  split
  ·by_cases hj : j < (n + 7) / 8
   ·rw [List.getElem?_append_left (by rw [Nr]; exact hj), List.getElem?_eq_getElem (by rw [Nr]; exact hj), Ayq p a n j hj]
   ·rw [List.getElem?_append_right (by rw [Nr]; omega), Nr, show j - (n + 7) / 8 = 0 by omega, show n - 8 * j = 0 by omega]; rfl
  ·rw [List.getElem?_eq_getElem (by rw [Nr]; omega), Ayq p a n j (by omega)]
 rw [List.getElem?_eq_getElem (by rw [Zc]; exact h)] at h0
 exact Option.some.inj h0
theorem Bgf (p : List UInt8) (a n T : Nat) (h1 : 1 ≤ T) (h : n % 8 + T ≤ 8) : (room p a n).set (n / 8) (UInt8.ofNat (Cd p (a + 8 * (n / 8)) (n % 8 + T))) = Aeg p a (n + T) := by
 apply List.ext_getElem (by rw [List.length_set, Zc, Nr]; omega)
 intro j g1 g2
 rw [List.length_set, Zc] at g1
 rw [List.getElem_set, Ayq p a (n + T) j (by rw [Nr] at g2; exact g2)]
 split
 ·rename_i e; subst e; rw [show min 8 (n + T - 8 * (n / 8)) = n % 8 + T by omega]
 ·rw [Bev p a n j g1, show min 8 (n - 8 * j) = 8 by omega, show min 8 (n + T - 8 * j) = 8 by omega]
theorem Bav (p : List UInt8) (a n : Nat) : (room p a n)[n / 8]'(by rw [Zc]; omega) = UInt8.ofNat (Cd p (a + 8 * (n / 8)) (n % 8)) := by
 rw [Bev p a n _ (by omega), show min 8 (n - 8 * (n / 8)) = n % 8 by omega]
theorem Bo6 (p : List UInt8) (a n : Nat) (hn : n ≤ 400000) : Qt (Aeg p a n) (n : Int) ((Kb p (a + n) : Nat) : Int) = some (Aeg p a (n + 1), ((n + 1 : Nat) : Int)) := by
 have hb := Yx p (a + n)
 have hp : 2 ^ (n % 8) ≤ 2 ^ 7 := Nat.pow_le_pow_right (by omega) (by omega)
 have hroom : Qt (Aeg p a n) (n : Int) ((Kb p (a + n) : Nat) : Int) = Po ((Kb p (a + n) : Nat) : Int) (n : Int) (room p a n) := by
  rw [Qt, Yj, Bnz, room]
  by_cases h0 : n % 8 = 0
  ·rw [if_pos (by rw [Bg, h0]; rfl), Dc (by rw [Nr]; simp; omega), Aa, if_pos h0]
  ·rw [if_neg (by rw [Bg]; simp; omega), if_neg h0]
 have hl := Bkq ((Kb p (a + n) : Nat) : Int) n (room p a n) (n % 8) 0 Ba (by omega) (by have := Ap; omega)
 rw [hroom, Po, Yq, Yh]
 refine Eq.trans hl ?_
 have hg : getI (room p a n) ((n / 8 : Nat) : Int) = some (UInt8.ofNat (Cd p (a + 8 * (n / 8)) (n % 8))) := by
  rw [Cq (by rw [Zc]; omega), Bav]
 have hlt := Bgo p (a + 8 * (n / 8)) (n % 8 + 1) (by omega)
 have hsn := Bbe p (a + 8 * (n / 8)) (n % 8)
 rw [show a + 8 * (n / 8) + n % 8 = a + n by omega] at hsn
 have hm : Bj ((Kb p (a + n) : Nat) : Int) ((2 ^ (n % 8) : Nat) : Int) = ((2 ^ (n % 8) * Kb p (a + n) : Nat) : Int) := by
  have hle : 2 ^ (n % 8) * Kb p (a + n) ≤ 2 ^ 7 * 1 := Nat.mul_le_mul hp (by omega)
  rw [Bpr, ← Int.natCast_mul, Cf (by omega) (by rw [Nat.mul_comm]; omega), Nat.mul_comm]
 have hx : Ae (UInt8.ofNat (Cd p (a + 8 * (n / 8)) (n % 8))) (Ad (((2 ^ (n % 8) * Kb p (a + n) : Nat) : Int)) : UInt8) = UInt8.ofNat (Cd p (a + 8 * (n / 8)) (n % 8 + 1)) := by
  rw [Bs6, Bn7, hsn, UInt8.ofNat_add]
 rw [Ps, Ag1, Bvt _ (by omega), hg, Aa, Aa, Aa, hm, hx, We _ (by rw [Zc]; omega), Aa, Bgf p a n 1 (by omega) (by omega), Ag (by omega) (by omega)]; rfl
theorem Atd (p : List UInt8) (N : Int) (a n : Nat) (ha : a + n ≤ 8 * p.length) (hp : p.length ≤ 1000000) (hn : n ≤ 300000) : ∀ (j m q : Nat), m + j = n → j < q → Fg ((a + n : Nat) : Int) p N q ((a + m : Nat) : Int) (m : Int) (Aeg p a m) = some (Aeg p a n, (n : Int))
 | 0, m, q + 1, hm, _ => by
  rw [Fg, Ka, if_neg (by rw [Af]; simp; omega), show m = n by omega]; rfl
 | j + 1, m, q + 1, hm, hq => by
  rw [Fg, Ka, if_pos (by rw [Af]; simp; omega), Auv p N (a + m) (by omega) (by omega), Aa, Bo6 p a m (by omega), Aa]
  simp only
  rw [Ag (by omega) (by omega)]
  exact Atd p N a n ha hp hn j (m + 1) q (by omega) (by omega)
theorem Bgk (p : List UInt8) (N : Int) (a n : Nat) (ha : a + n ≤ 8 * p.length) (hp : p.length ≤ 1000000) (hn : n ≤ 300000) : Wj p N (a : Int) ((a + n : Nat) : Int) = some (Aeg p a n, (n : Int)) := by
 have := Atd p N a n ha hp hn n 0 Ba (by omega) (by have := Ap; omega)
 exact this
end Go.Pl
set_option linter.unusedVariables false
set_option linter.unusedSimpArgs false
namespace Go.Pl
open Go Go.Lv
theorem Bt9 {t : Nat} (h : t ≤ 8) : Am (Eo (1 : UInt64) t) (1 : UInt64) = UInt64.ofNat (2 ^ t - 1) := by
 have : t = 0 ∨ t = 1 ∨ t = 2 ∨ t = 3 ∨ t = 4 ∨ t = 5 ∨ t = 6 ∨ t = 7 ∨ t = 8 := by omega
 rcases this with rfl | rfl | rfl | rfl | rfl | rfl | rfl | rfl | rfl <;> decide
theorem Bwx (v : UInt64) {t : Nat} (h : t ≤ 8) : (Iu v (Am (Eo (1 : UInt64) t) (1 : UInt64))).toNat = v.toNat % 2 ^ t := by
 have hp : 2 ^ t ≤ 2 ^ 8 := Nat.pow_le_pow_right (by omega) h
 rw [Bt9 h, Ay4, UInt64.toNat_and, UInt64.toNat_ofNat', Nat.mod_eq_of_lt (by have := Nat.pow_pos (n := t) (show 0 < 2 by omega); omega), Nat.and_two_pow_sub_one_eq_mod]
theorem or8 {v w i : Nat} (hv : v < 2 ^ i) (hw : w * 2 ^ i < 256) (hi : i < 8) : gor (UInt8.ofNat v) (Eo (UInt8.ofNat w) i) = UInt8.ofNat (v + w * 2 ^ i) := by
 have hp : 2 ^ i ≤ 2 ^ 8 := Nat.pow_le_pow_right (by omega) (by omega)
 have hpos : 0 < 2 ^ i := Nat.pow_pos (by omega)
 have hw2 : w < 256 := Nat.lt_of_le_of_lt (Nat.le_mul_of_pos_right w hpos) hw
 rw [Bt0]; apply UInt8.toNat_inj.1
 have e1 : (UInt8.ofNat v).toNat = v := by rw [UInt8.toNat_ofNat', Nat.mod_eq_of_lt (by omega)]
 have e2 : (UInt8.ofNat w).toNat = w := by rw [UInt8.toNat_ofNat', Nat.mod_eq_of_lt (by omega)]
 rw [UInt8.toNat_or, Brc, e1, e2, Nat.mod_eq_of_lt hw, Nat.mul_comm w, Nat.or_comm, ← Nat.two_pow_add_eq_or_of_lt hv, UInt8.toNat_ofNat', Nat.add_comm v]
 rw [Nat.mul_comm] at hw
 have hb : 2 ^ i * w + v < 256 := by
  rw [Nat.two_pow_add_eq_or_of_lt hv]
  exact Nat.or_lt_two_pow (n := 8) hw (by omega)
 rw [Nat.mod_eq_of_lt hb]
theorem Bp5 (p : List UInt8) (a n T : Nat) (h : T ≤ n) (hn : n ≤ 64) : Db (Wl p a n) T = Wl p (a + T) (n - T) := by
 apply UInt64.toNat_inj.1
 rw [Afs, Acd p a n hn, Acd p (a + T) (n - T) (by omega)]
 have := Ry p T a
 conv => lhs; rw [show n = T + (n - T) by omega, Ai6, Nat.add_mul_div_left _ _ (Nat.pow_pos (by omega)), Nat.div_eq_of_lt this, Nat.zero_add]
theorem Bnj (p : List UInt8) (a n T : Nat) (h : T ≤ n) (hn : n ≤ 64) : (Wl p a n).toNat % 2 ^ T = Cd p a T := by
 have := Ry p T a
 rw [Acd p a n hn]
 conv => lhs; rw [show n = T + (n - T) by omega, Ai6, Nat.add_mul_mod_self_left, Nat.mod_eq_of_lt this]
theorem Awx (bk : Int → Int → List UInt8 → Option (List UInt8 × Int × Int)) (to' : Int) (p : List UInt8) (N fr : Int) (r6 : UInt64) (a : Nat) : ∀ (j m q : Nat), m + j ≤ 300000 → j ≤ 64 → j < q →
  Oi bk to' p N fr r6 q (Wl p (a + m) j) (j : Int) (m : Int) (Aeg p a m) = Ag4 bk to' p N fr ((m + j : Nat) : Int) (Aeg p a (m + j))
 | 0, m, q + 1, _, _, _ => by
  rw [Oi, Ag6, if_neg (by rw [Au]; simp)]; rfl
 | j + 1, m, q + 1, hm, hj, hq => by
  have hroom : Oi bk to' p N fr r6 (q + 1) (Wl p (a + m) (j + 1)) ((j + 1 : Nat) : Int) (m : Int) (Aeg p a m) = Ag7 (Oi bk to' p N fr r6 q) to' fr p N r6 (Wl p (a + m) (j + 1)) ((j + 1 : Nat) : Int) (m : Int) (room p a m) := by
   rw [Oi, Ag6, if_pos (by rw [Au]; simp), Bhg m (by omega), room]
   by_cases h0 : m % 8 = 0
   ·rw [if_pos (by rw [Bg, h0]; rfl), Dc (by rw [Nr]; simp; omega), Aa, if_pos h0]
   ·rw [if_neg (by rw [Bg]; simp; omega), if_neg h0]
  have hl : Am (Ac (room p a m)) 1 = ((m / 8 : Nat) : Int) := by
   rw [Ac, Zc, Bk (by omega) (by omega)]; omega
  have e2 : Hf ((j + 1 : Nat) : Int) (Am (8 : Int) ((m % 8 : Nat) : Int)) = ((min (j + 1) (8 - m % 8) : Nat) : Int) := by
   rw [Akj, Bk (by omega) (by omega)]; omega
  rw [hroom, Ag7, Al9, Bhg m (by omega), e2, hl]
  generalize hT : min (j + 1) (8 - m % 8) = T
  have hT1 : 1 ≤ T := by omega
  have hT8 : m % 8 + T ≤ 8 := by omega
  have hg : getI (room p a m) ((m / 8 : Nat) : Int) = some (UInt8.ofNat (Cd p (a + 8 * (m / 8)) (m % 8))) := by
   rw [Cq (by rw [Zc]; omega), Bav]
  have z1 : (GI.toZ ((m % 8 : Nat) : Int)).toNat = m % 8 := rfl
  have z2 : (GI.toZ ((T : Nat) : Int)).toNat = T := rfl
  have hlt := Bgo p (a + 8 * (m / 8)) (m % 8 + T) (by omega)
  have hadd := Ai6 p (m % 8) T (a + 8 * (m / 8))
  rw [show a + 8 * (m / 8) + m % 8 = a + m by omega] at hadd
  have hbyte : (Ad (Iu (Wl p (a + m) (j + 1)) (Am (Eo (1 : UInt64) T) (1 : UInt64))) : UInt8) = UInt8.ofNat (Cd p (a + m) T) := by
   rw [Amy, Bwx _ (by omega), Bnj p (a + m) (j + 1) T (by omega) hj]
  have hnew : gor (UInt8.ofNat (Cd p (a + 8 * (m / 8)) (m % 8))) (Eo (UInt8.ofNat (Cd p (a + m) T)) (m % 8)) = UInt8.ofNat (Cd p (a + 8 * (m / 8)) (m % 8 + T)) := by
   rw [or8 (Ry _ _ _) (by rw [Nat.mul_comm]; omega) (by omega), hadd, Nat.mul_comm (2 ^ (m % 8))]
  rw [hg, z1, z2, hbyte]
  simp only [Aa]
  rw [Bu (by rw [Dz]; simp), Aa, Bu (by rw [Dz]; simp; omega), Aa, hnew, We _ (by rw [Zc]; omega), Aa, Bgf p a m T hT1 hT8, Amg, Atm, Bhg m (by omega), e2, hT, Bu (by rw [Dz]; simp), Aa, z2, Bp5 p (a + m) (j + 1) T (by omega) hj, Bk (by omega) (by omega), Ag (by omega) (by omega)]
  have ih := Awx bk to' p N fr r6 a (j + 1 - T) (m + T) q (by omega) (by omega) (by omega)
  rw [show m + T + (j + 1 - T) = m + (j + 1) by omega] at ih
  rw [← ih, show a + m + T = a + (m + T) by omega, show ((j + 1 : Nat) : Int) - ((T : Nat) : Int) = ((j + 1 - T : Nat) : Int) by omega, show (m : Int) + ((T : Nat) : Int) = ((m + T : Nat) : Int) by omega]
theorem Bfy (p : List UInt8) (N : Int) (a n : Nat) (ha : a + n ≤ 8 * p.length) (hp : p.length ≤ 1000000) (hn : n ≤ 300000) : ∀ (j m f q : Nat), (f = m ∨ n ≤ f ∧ m = n) → m + j = n → f ≤ n + 64 → j < q → Xu ((a + n : Nat) : Int) p N q ((a + f : Nat) : Int) (m : Int) (Aeg p a m) = some (Aeg p a n, (n : Int), 0)
 | j, m, f, q + 1, hf, hm, hf2, hq => by
  rw [Xu, Amf]
  by_cases hlt : f < n
  ·obtain rfl : f = m := by omega
   have e1 : Hf (64 : Int) (Am ((a + n : Nat) : Int) ((a + f : Nat) : Int)) = ((min 64 (n - f) : Nat) : Int) := by
    rw [Akj, Bk (by omega) (by omega)]; omega
   rw [if_pos (by rw [Af]; simp; omega), e1, get_eq p N (a + f) _ (by omega) (by omega) hp, Aa, Amr]
   have h1 := Awx (Xu ((a + n : Nat) : Int) p N q) ((a + n : Nat) : Int) p N ((a + f : Nat) : Int) (Wl p (a + f) (min 64 (n - f))) a (min 64 (n - f)) f Ba (by omega) (by omega) (by have := Ap; omega)
   refine Eq.trans h1 ?_
   rw [Ag4, As7, Ag (by omega) (by omega), show ((a + f : Nat) : Int) + 64 = ((a + (f + 64) : Nat) : Int) by omega]
   exact Bfy p N a n ha hp hn (j - min 64 (n - f)) (f + min 64 (n - f)) (f + 64) q (by omega) (by omega) (by omega) (by omega)
  ·rw [if_neg (by rw [Af]; simp; omega), Amx, Ati, show m = n by omega]
theorem Buy {p : List UInt8} {N : Nat} (h : okB p N) (a n : Nat) (ha : a + n ≤ N) (hn : n ≤ 300000) : Aoz p (N : Int) (a : Int) ((a + n : Nat) : Int) = some (Aeg p a n, (n : Int), 0) := by
 obtain ⟨h1, h2, h3⟩ := h
 have := Bfy p N a n (by omega) (by omega) hn n 0 0 Ba (by omega) (by omega) (by omega) (by have := Ap; omega)
 rw [Aoz, Apa, Ahm ⟨h1, h2, h3⟩, Aa, if_neg (by rw [Ah]; simp), if_neg (by simp [Af, Au]; omega), Ami]
 exact this
end Go.Pl
set_option linter.unusedVariables false
set_option linter.unusedSimpArgs false
namespace Go.Pl
open Go Go.Lv
def Fy (p : List UInt8) : Nat → Nat → Nat
 | _, 0 => 0
 | a, m + 1 => if Kb p a = 1 then 1 + Fy p (a + 1) m else 0
theorem Aj1 (p : List UInt8) : ∀ (m a : Nat), Fy p a m ≤ m
 | 0, _ => Nat.le_refl _
 | m + 1, a => by rw [Fy]; split <;> have := Aj1 p m (a + 1) <;> omega
theorem Ber (p : List UInt8) : ∀ (m a : Nat), ∃ s, Cd p a m + 1 = 2 ^ (Fy p a m + 1) * s + 2 ^ Fy p a m ∧ (Fy p a m = m → s = 0)
 | 0, a => ⟨0, by simp [Cd, Fy], fun _ => rfl⟩
 | m + 1, a => by
  have hb := Yx p a
  obtain ⟨s, h1, h2⟩ := Ber p m (a + 1)
  by_cases h : Kb p a = 1
  ·refine ⟨s, ?_, fun e => h2 ?_⟩
   ·rw [Fy, if_pos h, Cd, h, show 1 + Fy p (a + 1) m + 1 = (Fy p (a + 1) m + 1) + 1 by omega, show 1 + Fy p (a + 1) m = Fy p (a + 1) m + 1 by omega, Nat.pow_succ, Nat.pow_succ (n := 2) (m := Fy p (a + 1) m)]
    rw [Nat.pow_succ] at h1
    generalize Cd p (a + 1) m = V at *
    generalize 2 ^ Fy p (a + 1) m = W at *
    have e1 : W * 2 * 2 * s = 2 * (W * 2 * s) := by rw [Nat.mul_right_comm (W * 2) 2 s, Nat.mul_comm]
    omega
   ·rw [Fy, if_pos h] at e; omega
  ·refine ⟨Cd p (a + 1) m, ?_, fun e => ?_⟩
   ·rw [Fy, if_neg h, Cd]; simp; omega
   ·rw [Fy, if_neg h] at e; omega
theorem Brl {n t s : Nat} (h : 2 ^ (t + 1) * s + 2 ^ t ≤ 2 ^ n) (ht : t < n) (x : Nat) (hx : x = 2 ^ n - (2 ^ (t + 1) * s + 2 ^ t)) : x &&& (2 ^ (t + 1) * s + 2 ^ t) = 2 ^ t := by
 have hpos : 0 < 2 ^ t := Nat.pow_pos (by omega)
 have hlt : 2 ^ t < 2 ^ (t + 1) := by rw [Nat.pow_succ]; omega
 have e : x = 2 ^ n - ((2 ^ (t + 1) * s + (2 ^ t - 1)) + 1) := by rw [hx]; congr 1; omega
 apply Nat.eq_of_testBit_eq
 intro i
 rw [Nat.testBit_and, e, Nat.testBit_two_pow_sub_succ (by omega), Nat.testBit_two_pow_mul_add _ (by omega), Nat.testBit_two_pow_mul_add _ hlt]
 by_cases hi : i < t + 1
 ·rw [if_pos hi, if_pos hi, Nat.testBit_two_pow_sub_one, Nat.testBit_two_pow]
  by_cases hit : t = i
  ·subst hit; simp; exact ht
  ·have : ¬ i = t := fun e => hit e.symm
   simp [hit]
 ·rw [if_neg hi, if_neg hi, Nat.testBit_two_pow]
  have : ¬ t = i := by omega
  simp [this]
theorem Bn1 (a : UInt64) : (Axw a).toNat = 18446744073709551615 - a.toNat := by
 have h := a.toNat_lt
 have e : Axw a = UInt64.ofNat (BitVec.ofInt 64 18446744073709551615 ^^^ BitVec.ofInt 64 (a.toNat : Int)).toNat := Gw _
 have h1 : BitVec.ofInt 64 (a.toNat : Int) = a.toBitVec := Bdx a
 have h2 : (BitVec.ofInt 64 18446744073709551615 : BitVec 64) = BitVec.allOnes 64 := by decide
 rw [e, UInt64.toNat_ofNat', h1, h2, BitVec.allOnes_xor, BitVec.toNat_not]
 show (18446744073709551616 - 1 - a.toNat) % 18446744073709551616 = 18446744073709551615 - a.toNat
 omega
theorem Bni (a : UInt64) : (Asu a).toNat = (18446744073709551616 - a.toNat) % 18446744073709551616 := by
 have h := a.toNat_lt
 have e : Asu a = UInt64.ofNat ((0 - (a.toNat : Int)) % 18446744073709551616).toNat := Bc9 _
 rw [e, UInt64.toNat_ofNat']
 show ((0 - (a.toNat : Int)) % 18446744073709551616).toNat % 18446744073709551616 = _
 omega
def Bvz : List UInt8 := [0, 1, 56, 2, 57, 49, 28, 3, 61, 58, 42, 50, 38, 29, 17, 4, 62, 47, 59, 36, 45, 43, 51, 22, 53, 39, 33, 30, 24, 18, 12, 5, 63, 55, 48, 27, 60, 41, 37, 16, 46, 35, 44, 21, 52, 32, 23, 11, 54, 26, 40, 15, 34, 20, 31, 10, 25, 14, 19, 9, 13, 8, 7, 6]
theorem Blu : ∀ t : Fin 64, getI Bvz (GI.toZ (Db (Bj (UInt64.ofNat (2 ^ t.val)) (285870213051353865 : UInt64)) (GI.toZ (58 : UInt64)).toNat)) = some (UInt8.ofNat t.val) := by decide +kernel
theorem Bwl (x : UInt64) (t s : Nat) (ht : t < 64) (h : x.toNat + (2 ^ (t + 1) * s + 2 ^ t) = 18446744073709551616) : Fv x = some (t : Int) := by
 have hpos : 0 < 2 ^ t := Nat.pow_pos (by omega)
 have hx : x.toNat = 2 ^ 64 - (2 ^ (t + 1) * s + 2 ^ t) := by show x.toNat = 18446744073709551616 - _; omega
 have hle : 2 ^ t ≤ 2 ^ 63 := Nat.pow_le_pow_right (by omega) (by omega)
 have hne : x ≠ 0 := by
  intro e
  rw [e] at h
  have h' : 2 ^ t * (2 * s + 1) = 2 ^ 64 := by
   rw [Nat.mul_add, Nat.mul_one, ← Nat.mul_assoc, ← Nat.pow_succ]
   show _ = 18446744073709551616
   simpa using h
  have h2 : 2 ^ 64 = 2 ^ t * 2 ^ (64 - t) := by rw [← Nat.pow_add]; congr 1; omega
  rw [h2] at h'
  have h3 := Nat.eq_of_mul_eq_mul_left hpos h'
  rw [show 64 - t = (63 - t) + 1 by omega, Nat.pow_succ] at h3
  omega
 have hx0 : x.toNat ≠ 0 := fun e => hne (UInt64.toNat_inj.1 e)
 have hl : Iu x (Asu x) = UInt64.ofNat (2 ^ t) := by
  apply UInt64.toNat_inj.1
  rw [Ay4, UInt64.toNat_and, Bni, show (18446744073709551616 - x.toNat) % 18446744073709551616 = 2 ^ (t + 1) * s + 2 ^ t by omega, Brl (n := 64) (by show _ ≤ 18446744073709551616; omega) ht _ hx, UInt64.toNat_ofNat', Nat.mod_eq_of_lt]
  exact Nat.lt_of_le_of_lt hle (by decide)
 have hb := Blu ⟨t, ht⟩
 rw [Fv, if_neg (by rw [Awq]; simpa using hne), hl]
 refine Eq.trans (congrArg (fun o => Option.bind o fun c => some (Ad c : Int)) hb) ?_
 rw [Aa, Aeo, UInt8.toNat_ofNat', Nat.mod_eq_of_lt (by show t < 256; omega)]
theorem Bse (p : List UInt8) (a m : Nat) (hm : m ≤ 48) : Fv (Axw (Wl p a m)) = some ((Fy p a m : Nat) : Int) := by
 obtain ⟨s, h1, h2⟩ := Ber p m a
 have hle := Aj1 p m a
 have hlt := Ry p m a
 have h48 : 2 ^ m ≤ 2 ^ 48 := Nat.pow_le_pow_right (by omega) hm
 have hn : (Axw (Wl p a m)).toNat = 18446744073709551615 - Cd p a m := by rw [Bn1, Acd p a m (by omega)]
 have h3 : (281474976710656 : Nat) = 2 ^ 48 := rfl
 refine Bwl _ (Fy p a m) s (by omega) ?_
 rw [hn]; omega
def unS (p : List UInt8) (N a : Nat) : Int × Int × Int :=
 if Fy p a (min 48 (N - a)) < min 48 (N - a) then ((Fy p a (min 48 (N - a)) : Nat), ((a + Fy p a (min 48 (N - a)) + 1 : Nat) : Int), 0) else
 if Fy p a (min 48 (N - a)) = 48 then (48, ((a + 48 : Nat) : Int), 0) else (0, 0, 24)
theorem Bof {p : List UInt8} {N : Nat} (h : okB p N) (a : Nat) (ha : a < N) : Ady p (N : Int) (a : Int) = some (unS p N a) := by
 have hN := h.1
 have e1 : Hf (48 : Int) (Am (N : Int) (a : Int)) = ((min 48 (N - a) : Nat) : Int) := by rw [Akj, Bk (by omega) (by omega)]; omega
 have hle := Aj1 p (min 48 (N - a)) a
 rw [Ady, Za, Ahm h, Aa, if_neg (by rw [Ah]; simp), if_neg (by rw [Af]; simp), if_neg (by rw [Dz]; simp; omega), e1, Auj h a _ (by omega), if_neg (by omega), Aa]
 simp only
 rw [Akb, Akw, if_neg (by rw [Ah]; simp), Bse p a _ (by omega), Aa, Aj6, Aka, e1, unS]
 by_cases h1 : Fy p a (min 48 (N - a)) < min 48 (N - a)
 ·rw [if_pos (by rw [Af]; simp; omega), if_pos h1, Ag (a := (a : Int)) (by omega) (by omega), show Ae (0 : Int) 1 = 1 by decide, Ag (by omega) (by omega)]
  congr 3; omega
 ·rw [if_neg (by rw [Af]; simp; omega), if_neg h1, Akh, Aj5]
  by_cases h2 : Fy p a (min 48 (N - a)) = 48
  ·rw [if_pos (by rw [Bg, h2]; rfl), if_pos h2, h2, Ag (a := (a : Int)) (by omega) (by omega), Ag (by omega) (by omega)]
   congr 3; omega
  ·rw [if_neg (by rw [Bg]; simp; omega), if_neg h2]; rfl
theorem Bb4 (p : List UInt8) : ∀ (m a : Nat), Fy p a m < m → Kb p (a + Fy p a m) ≠ 1
 | 0, _, h => by simp [Fy] at h
 | m + 1, a, h => by
  by_cases hb : Kb p a = 1
  ·rw [Fy, if_pos hb] at h ⊢
   have := Bb4 p m (a + 1) (by omega)
   rwa [show a + (1 + Fy p (a + 1) m) = a + 1 + Fy p (a + 1) m by omega]
  ·rw [Fy, if_neg hb]; exact hb
theorem Bbi (p : List UInt8) : ∀ (m a k : Nat), k < Fy p a m → Kb p (a + k) = 1
 | 0, a, k, h => by simp [Fy] at h
 | m + 1, a, k, h => by
  by_cases hb : Kb p a = 1
  ·rw [Fy, if_pos hb] at h
   cases k with
   | zero => exact hb
   | succ k =>
    have := Bbi p m (a + 1) k (by omega)
    rwa [show a + (k + 1) = a + 1 + k by omega]
  ·rw [Fy, if_neg hb] at h; omega
def unR (p : List UInt8) (N a : Nat) : Int × Int := if (unS p N a).2.2 = 0 then ((unS p N a).1, (unS p N a).2.1) else (-1, 0)
theorem Axi {p : List UInt8} {N : Nat} (h : okB p N) (a : Nat) (ha : a < N) : ∀ (j k q : Nat), k + j = Fy p a (min 48 (N - a)) → j < q → Hu (a : Int) p (N : Int) q (k : Int) = some (unR p N a)
 | 0, k, q + 1, hk, _ => by
  obtain ⟨hN, hl, hz⟩ := h
  have hle := Aj1 p (min 48 (N - a)) a
  have hk' : k = Fy p a (min 48 (N - a)) := by omega
  have e1 : Ae (a : Int) (k : Int) = ((a + k : Nat) : Int) := by rw [Ag (by omega) (by omega)]; omega
  have hend : Qe (a : Int) (k : Int) p (N : Int) = some (unR p N a) := by
   rw [Qe, Ag3, e1]
   by_cases h48 : k = 48
   ·have hu : unS p N a = (48, ((a + 48 : Nat) : Int), 0) := by rw [unS, ← hk', if_neg (by omega), if_pos h48]
    rw [if_pos (by rw [Bg, h48]; rfl), unR, hu, h48]; rfl
   ·rw [if_neg (by rw [Bg]; simp; omega)]
    by_cases hN2 : N ≤ a + k
    ·have hu : unS p N a = (0, 0, 24) := by rw [unS, ← hk', if_neg (by omega), if_neg h48]
     rw [if_pos (by rw [Dz]; simp; omega), unR, hu]; rfl
    ·have hu : unS p N a = (((k : Nat) : Int), ((a + k + 1 : Nat) : Int), 0) := by rw [unS, ← hk', if_pos (by omega)]
     rw [if_neg (by rw [Dz]; simp; omega), unR, hu, Ag (by omega) (by omega)]; rfl
  rw [Hu, Qa, e1]
  by_cases hc : a + k < N ∧ k < 48
  ·have hb := Yx p (a + k)
   have hs := Bb4 p (min 48 (N - a)) a (by omega)
   rw [← hk'] at hs
   rw [if_pos (by simp [Af]; omega), Auv p _ (a + k) (by omega) (by omega), Aa, if_neg (by rw [Bg]; simp; omega), hend]
  ·rw [if_neg (by simp [Af]; omega), hend]
 | j + 1, k, q + 1, hk, hq => by
  obtain ⟨hN, hl, hz⟩ := h
  have hle := Aj1 p (min 48 (N - a)) a
  have hb := Bbi p (min 48 (N - a)) a k (by omega)
  have e1 : Ae (a : Int) (k : Int) = ((a + k : Nat) : Int) := by rw [Ag (by omega) (by omega)]; omega
  rw [Hu, Qa, e1, if_pos (by simp [Af]; omega), Auv p _ (a + k) (by omega) (by omega), Aa, hb, if_pos (by decide), Ag (by omega) (by omega)]
  exact Axi ⟨hN, hl, hz⟩ a ha j (k + 1) q (by omega) (by omega)
theorem Boj {p : List UInt8} {N : Nat} (h : okB p N) (a : Nat) (ha : a < N) : Aek p (N : Int) (a : Int) = some (unR p N a) := by
 have hle := Aj1 p (min 48 (N - a)) a
 have := Axi h a ha (Fy p a (min 48 (N - a))) 0 Ba (by omega) (by have := Ap; omega)
 exact this
end Go.Pl
set_option linter.unusedVariables false
set_option linter.unusedSimpArgs false
namespace Go.Pl
open Go Go.Lv
theorem Bqk {p : List UInt8} {N a : Nat} (h : Fy p a (min 48 (N - a)) < min 48 (N - a)) : unS p N a = (((Fy p a (min 48 (N - a)) : Nat) : Int), ((a + Fy p a (min 48 (N - a)) + 1 : Nat) : Int), 0) := by rw [unS, if_pos h]
theorem Bng {p : List UInt8} {N a : Nat} (h : ¬ Fy p a (min 48 (N - a)) < min 48 (N - a)) (h2 : Fy p a (min 48 (N - a)) = 48) : unS p N a = (48, ((a + 48 : Nat) : Int), 0) := by rw [unS, if_neg h, if_pos h2]
theorem Bo0 {p : List UInt8} {N a : Nat} (h : ¬ Fy p a (min 48 (N - a)) < min 48 (N - a)) (h2 : ¬ Fy p a (min 48 (N - a)) = 48) : unS p N a = (0, 0, 24) := by rw [unS, if_neg h, if_neg h2]
theorem Bm2 {p : List UInt8} {N : Nat} (h : okB p N) (a : Nat) (ha : N ≤ a) : Ady p (N : Int) (a : Int) = some (0, 0, 24) := by
 rw [Ady, Za, Ahm h, Aa, if_neg (by rw [Ah]; simp), if_neg (by rw [Af]; simp), if_pos (by rw [Dz]; simp; omega)]
def rcS (p : List UInt8) (N a k : Nat) : UInt32 × Int × Int :=
 if N ≤ a then (0, 0, 24) else
 if Fy p a (min 48 (N - a)) < min 48 (N - a) then
  (if N < a + Fy p a (min 48 (N - a)) + 1 + k then (0, 0, 24) else (UInt32.ofNat (Fy p a (min 48 (N - a)) * 2 ^ k + Cd p (a + Fy p a (min 48 (N - a)) + 1) k), ((a + Fy p a (min 48 (N - a)) + 1 + k : Nat) : Int), 0))
 else if Fy p a (min 48 (N - a)) = 48 then
  (if N < a + 48 + 32 then (0, 0, 24) else if Cd p (a + 48) 32 / 2 ^ k < 48 then (0, 0, 12) else (UInt32.ofNat (Cd p (a + 48) 32), ((a + 48 + 32 : Nat) : Int), 0))
 else (0, 0, 24)
theorem As4 {p : List UInt8} {a n : Nat} (h : n ≤ 32) : (Ad (Wl p a n) : UInt32) = UInt32.ofNat (Cd p a n) := by
 have e : (Ad (Wl p a n) : UInt32) = UInt32.ofNat (Wl p a n).toNat := by simp only [Ad, Ic, Er]
 rw [e, Acd p a n (by omega)]
theorem Anj {n : Nat} (h : n < 4294967296) : (UInt32.ofNat n).toNat = n := by rw [UInt32.toNat_ofNat']; exact Nat.mod_eq_of_lt h
theorem Bfv (p : List UInt8) (a : Nat) {n : Nat} (h : n ≤ 32) : Cd p a n < 4294967296 := by
 have h1 := Ry p n a
 have h2 : 2 ^ n ≤ 2 ^ 32 := Nat.pow_le_pow_right (by omega) h
 omega
theorem Btz {q v k : Nat} (hq : q < 48) (hv : v < 2 ^ k) (hk : k ≤ 24) : gor (Eo (Ad (q : Int) : UInt32) k) (UInt32.ofNat v) = UInt32.ofNat (q * 2 ^ k + v) := by
 have hp : 2 ^ k ≤ 2 ^ 24 := Nat.pow_le_pow_right (by omega) hk
 have h1 : q * 2 ^ k ≤ 47 * 2 ^ 24 := Nat.mul_le_mul (by omega) hp
 rw [Bqw]; apply UInt32.toNat_inj.1
 rw [UInt32.toNat_or, Ayo, Bb2, Anj (by omega), Anj (n := v) (by omega), Nat.mod_eq_of_lt (by omega), Nat.mul_comm q, ← Nat.two_pow_add_eq_or_of_lt hv, Anj (by rw [Nat.mul_comm]; omega)]
theorem Brg {p : List UInt8} {N : Nat} (h : okB p N) (a k : Nat) (hk : k ≤ 24) : Aqb p (N : Int) (a : Int) (k : Int) = some (rcS p N a k) := by
 have hN := h.1
 rw [Aqb, Amh, Ahm h, Aa, if_neg (by rw [Ah]; simp), if_neg (by simp [Af, Au]; omega)]
 by_cases ha : N ≤ a
 ·rw [Bm2 h a ha, Aa, rcS, if_pos ha]; rfl
 have hle := Aj1 p (min 48 (N - a)) a
 rw [Bof h a (by omega), Aa]
 by_cases h1 : Fy p a (min 48 (N - a)) < min 48 (N - a)
 ·have hS : rcS p N a k = if N < a + Fy p a (min 48 (N - a)) + 1 + k then (0, 0, 24) else (UInt32.ofNat (Fy p a (min 48 (N - a)) * 2 ^ k + Cd p (a + Fy p a (min 48 (N - a)) + 1) k), ((a + Fy p a (min 48 (N - a)) + 1 + k : Nat) : Int), 0) := by rw [rcS, if_neg ha, if_pos h1]
  rw [Bqk h1, hS]
  generalize Fy p a (min 48 (N - a)) = q at *
  simp only
  rw [if_neg (by rw [Ah]; simp), if_neg (by rw [Bg]; simp; omega), Ahe, Amm, Auj h _ k (by omega), Aa]
  by_cases h2 : N < a + q + 1 + k
  ·rw [if_pos h2, if_pos h2]; rfl
  ·rw [if_neg h2, if_neg h2]
   simp only
   have z : (GI.toZ (k : Int)).toNat = k := rfl
   rw [if_neg (by rw [Ah]; simp), if_pos (by rw [Af]; simp; omega), Bu (by rw [Dz]; simp), Aa, z, As4 (by omega), Btz (by omega) (Ry _ _ _) hk, Ag (by omega) (by omega)]; rfl
 ·by_cases h2 : Fy p a (min 48 (N - a)) = 48
  ·have hS : rcS p N a k = if N < a + 48 + 32 then (0, 0, 24) else if Cd p (a + 48) 32 / 2 ^ k < 48 then (0, 0, 12) else (UInt32.ofNat (Cd p (a + 48) 32), ((a + 48 + 32 : Nat) : Int), 0) := by rw [rcS, if_neg ha, if_neg h1, if_pos h2]
   have hg := Auj h (a + 48) 32 (by omega)
   rw [Bng h1 h2, hS]
   simp only
   rw [if_neg (by rw [Ah]; simp), if_pos (by rw [Bg]; rfl), Ahe, Amm]
   refine Eq.trans (congrArg (fun o => Option.bind o _) hg) ?_
   rw [Aa]
   by_cases h3 : N < a + 48 + 32
   ·rw [if_pos h3, if_pos h3]; rfl
   ·rw [if_neg h3, if_neg h3]
    simp only
    have z : (GI.toZ (k : Int)).toNat = k := rfl
    have hv := Bfv p (a + 48) (n := 32) (by omega)
    rw [if_neg (by rw [Ah]; simp), if_neg (by rw [Af]; simp), Amt, Bu (by rw [Dz]; simp), Aa, Aa, z, As4 (by omega), Bsw]
    have e : (decide ((48 : UInt32).toNat ≤ (Db (UInt32.ofNat (Cd p (a + 48) 32)) k).toNat)) = decide (¬ Cd p (a + 48) 32 / 2 ^ k < 48) := by
     rw [Alz, Anj hv]; simp
    rw [e]
    by_cases h4 : Cd p (a + 48) 32 / 2 ^ k < 48
    ·rw [if_pos (by simp [h4]), if_pos h4]
    ·rw [if_neg (by simp; omega), if_neg h4, Ag (by omega) (by omega)]; rfl
  ·rw [Bo0 h1 h2, rcS, if_neg ha, if_neg h1, if_neg h2]; rfl
theorem Ayg (k : Nat) (hk : k ≤ 63) : ∀ (j i q : Nat), i + j = k → j < q → Gb (k : Int) q (UInt64.ofNat (2 ^ i)) (i : Int) = some (UInt64.ofNat (2 ^ k))
 | 0, i, q + 1, hi, _ => by
  rw [Gb, Ml, if_neg (by rw [Af]; simp; omega), show i = k by omega]; rfl
 | j + 1, i, q + 1, hi, hq => by
  have e : Bj (UInt64.ofNat (2 ^ i)) (2 : UInt64) = UInt64.ofNat (2 ^ (i + 1)) := by
   rw [Af0, Nat.pow_succ, UInt64.ofNat_mul]; rfl
  rw [Gb, Ml, if_pos (by rw [Af]; simp; omega), Ag (by omega) (by omega), e]
  exact Ayg k hk j (i + 1) q (by omega) (by omega)
theorem Afn (k : Nat) (hk : k ≤ 63) : Ei (k : Int) = some (UInt64.ofNat (2 ^ k)) :=
 Ayg k hk k 0 Ba (by omega) (by have := Ap; omega)
theorem Ajq {k : Nat} (hk : k ≤ 63) : (UInt64.ofNat (2 ^ k)).toNat = 2 ^ k := by
 have hp : 2 ^ k ≤ 2 ^ 63 := Nat.pow_le_pow_right (by omega) hk
 rw [UInt64.toNat_ofNat', Nat.mod_eq_of_lt (by omega)]
theorem Bro (v : UInt32) (k : Nat) (hk : k ≤ 24) : Vp v (k : Int) = some ((min 48 (v.toNat / 2 ^ k) : Nat) : Int) := by
 have hpos : 0 < 2 ^ k := Nat.pow_pos (by omega)
 have hv := v.toNat_lt
 rw [Vp, Afn k (by omega), Aa, Bu (by rw [Ahc]; simp only [bne_iff_ne, ne_eq, ← UInt64.toNat_inj, Ajq (show k ≤ 63 by omega)]; simp), Aa]
 have e : (Bs (Ad v : UInt64) (UInt64.ofNat (2 ^ k))).toNat = v.toNat / 2 ^ k := by
  rw [Asg, UInt64.toNat_div, Ia, Ajq (by omega), UInt64.toNat_ofNat', Nat.mod_eq_of_lt (by omega)]
 have hle : v.toNat / 2 ^ k ≤ v.toNat := Nat.div_le_self _ _
 have e2 : Hf (48 : UInt64) (Bs (Ad v : UInt64) (UInt64.ofNat (2 ^ k))) = UInt64.ofNat (min 48 (v.toNat / 2 ^ k)) := by
  apply UInt64.toNat_inj.1
  rw [UInt64.toNat_ofNat', Nat.mod_eq_of_lt (by omega)]
  show (if _ then _ else _ : UInt64).toNat = _
  rw [show (GI.toZ (Bs (Ad v : UInt64) (UInt64.ofNat (2 ^ k)))) = ((v.toNat / 2 ^ k : Nat) : Int) by rw [Ic, e], show GI.toZ (48 : UInt64) = 48 from rfl]
  split
  ·rw [e]; omega
  ·show 48 = _; omega
 rw [e2, Aus (by rw [UInt64.toNat_ofNat', Nat.mod_eq_of_lt] <;> omega), UInt64.toNat_ofNat', Nat.mod_eq_of_lt (by omega)]
theorem Bnv {p : List UInt8} {N : Nat} (h : okB p N) (a k : Nat) (hk : k ≤ 24) : Xp p (N : Int) (a : Int) (k : Int) = some (rcS p N a k) := by
 obtain ⟨hN, hl, hz⟩ := h
 have h : okB p N := ⟨hN, hl, hz⟩
 rw [Xp, Yg]
 by_cases ha : N ≤ a
 ·rw [if_pos (by rw [Dz]; simp; omega), rcS, if_pos ha]
 have hle := Aj1 p (min 48 (N - a)) a
 rw [if_neg (by rw [Dz]; simp; omega), Boj h a (by omega), Aa, unR]
 by_cases h1 : Fy p a (min 48 (N - a)) < min 48 (N - a)
 ·have hS : rcS p N a k = if N < a + Fy p a (min 48 (N - a)) + 1 + k then (0, 0, 24) else (UInt32.ofNat (Fy p a (min 48 (N - a)) * 2 ^ k + Cd p (a + Fy p a (min 48 (N - a)) + 1) k), ((a + Fy p a (min 48 (N - a)) + 1 + k : Nat) : Int), 0) := by rw [rcS, if_neg ha, if_pos h1]
  rw [Bqk h1, hS]
  generalize Fy p a (min 48 (N - a)) = q at *
  rw [if_pos rfl]
  simp only
  rw [if_neg (by rw [Bg]; simp; omega), Pq, Ye, Bk (by omega) (by omega)]
  by_cases h2 : N < a + q + 1 + k
  ·rw [if_pos (by simp [Af]; omega), if_pos h2]
  ·have hp : 2 ^ k ≤ 2 ^ 24 := Nat.pow_le_pow_right (by omega) hk
   have hm : q * 2 ^ k ≤ 47 * 2 ^ 24 := Nat.mul_le_mul (by omega) hp
   have hv := Ry p k (a + q + 1)
   have e : (Ad (Ae (Bj (Ad (q : Int) : UInt64) (UInt64.ofNat (2 ^ k))) (Wl p (a + q + 1) k)) : UInt32) = UInt32.ofNat (q * 2 ^ k + Cd p (a + q + 1) k) := by
    have e1 : Ae (Bj (Ad (q : Int) : UInt64) (UInt64.ofNat (2 ^ k))) (Wl p (a + q + 1) k) = UInt64.ofNat (q * 2 ^ k + Cd p (a + q + 1) k) := by
     rw [Afj, Af0, Aay, Wl, UInt64.ofNat_add, UInt64.ofNat_mul]
    rw [e1]
    have e2 : ∀ x : UInt64, (Ad x : UInt32) = UInt32.ofNat x.toNat := fun x => by simp only [Ad, Ic, Er]
    rw [e2, UInt64.toNat_ofNat', Nat.mod_eq_of_lt (by omega)]
   rw [if_neg (by simp [Af]; omega), if_neg h2, Ar3 p _ _ k (by omega) (by omega), Aa, if_pos (by rw [Af]; simp; omega), Afn k (by omega), Aa, e, Ag (by omega) (by omega)]; rfl
 ·by_cases h2 : Fy p a (min 48 (N - a)) = 48
  ·have hS : rcS p N a k = if N < a + 48 + 32 then (0, 0, 24) else if Cd p (a + 48) 32 / 2 ^ k < 48 then (0, 0, 12) else (UInt32.ofNat (Cd p (a + 48) 32), ((a + 48 + 32 : Nat) : Int), 0) := by rw [rcS, if_neg ha, if_neg h1, if_pos h2]
   rw [Bng h1 h2, hS, if_pos rfl]
   simp only
   rw [if_pos (by rw [Bg]; rfl), Pq, Ye, Bk (by omega) (by omega)]
   by_cases h3 : N < a + 48 + 32
   ·rw [if_pos (by simp [Af]; omega), if_pos h3]
   ·have hg := Ar3 p (N : Int) (a + 48) 32 (by omega) (by omega)
    have hv := Bfv p (a + 48) (n := 32) (by omega)
    rw [if_neg (by simp [Af]; omega), if_neg h3]
    refine Eq.trans (congrArg (fun o => Option.bind o _) hg) ?_
    rw [Aa, if_neg (by rw [Af]; simp), As4 (by omega), Bro _ k hk, Aa, Anj hv]
    by_cases h4 : Cd p (a + 48) 32 / 2 ^ k < 48
    ·rw [if_pos (by rw [Af]; simp; omega), if_pos h4]
    ·rw [if_neg (by rw [Af]; simp; omega), if_neg h4, Ag (by omega) (by omega)]; rfl
  ·rw [Bo0 h1 h2, rcS, if_neg ha, if_neg h1, if_neg h2]
   have e : (if ((0 : Int), (0 : Int), (24 : Int)).2.2 = 0 then (((0 : Int), (0 : Int), (24 : Int)).1, ((0 : Int), (0 : Int), (24 : Int)).2.1) else ((-1 : Int), (0 : Int))) = (-1, 0) := by decide
   rw [e]; rfl
theorem Bud {p : List UInt8} {N a k : Nat} {v : UInt32} {n : Int} (h : rcS p N a k = (v, n, 0)) : (a : Int) < n ∧ n ≤ N := by
 unfold rcS at h
 split at h
 ·simp at h
 split at h
 ·split at h
  ·simp at h
  ·simp only [Prod.mk.injEq] at h; omega
 ·split at h
  ·split at h
   ·simp at h
   ·split at h
    ·simp at h
    ·simp only [Prod.mk.injEq] at h; omega
  ·simp at h
end Go.Pl
set_option linter.unusedVariables false
set_option linter.unusedSimpArgs false
namespace Go.Pl
open Go Go.Lv
def okD (k l : Nat) (s t : UInt64) : Prop := k ≤ 24 ∧ l ≤ 24 ∧ s.toNat ≤ 68719476735 ∧ t.toNat ≤ 68719476735
theorem Bgx (a b : UInt64) (h : a.toNat ≤ b.toNat) : Hf a b = a := by
 show (if _ then _ else _) = _
 rw [Ic, Ic, if_neg (by omega)]
theorem As9 (a : UInt64) : geq a a = true := by rw [Awq]; simp
theorem Bum {k l : Nat} {s t : UInt64} (h : okD k l s t) : Amn (k : Int) (l : Int) s t = some 0 := by
 obtain ⟨h1, h2, h3, h4⟩ := h
 have e1 : Hf (Aqs (k : Int) 0) 24 = (k : Int) := by rw [Akj, Bis]; omega
 have e2 : Hf (Aqs (l : Int) 0) 24 = (l : Int) := by rw [Akj, Bis]; omega
 have e3 : Hf s (68719476735 : UInt64) = s := Bgx _ _ (by simpa using h3)
 have e4 : Hf t (68719476735 : UInt64) = t := Bgx _ _ (by simpa using h4)
 have e5 : ∀ a : Int, geq a a = true := fun a => by rw [Bg]; simp
 rw [Amn, Aex, Akc, Aeq, Ak1, Aq6, e1, e2, e3, e4, e5, e5, As9, As9]; rfl
def Ac3 (s n : UInt64) : UInt64 := s + n - s / 16
def kS (k : Nat) (s : UInt64) : Nat := if 0 < k ∧ s.toNat < 2 ^ (k + 4) then k - 1 else if k < 24 ∧ 2 ^ (k + 5) < s.toNat then k + 1 else k
theorem Bth {k : Nat} (h : k ≤ 24) (s : UInt64) : kS k s ≤ 24 := by
 unfold kS
 by_cases h1 : 0 < k ∧ s.toNat < 2 ^ (k + 4)
 ·rw [if_pos h1]; omega
 ·rw [if_neg h1]; split <;> omega
theorem Bj6 {k : Nat} {s : UInt64} (h : ¬ (0 < k ∧ s.toNat < 2 ^ (k + 4))) : (if k < 24 ∧ 2 ^ (k + 5) < s.toNat then ((k + 1 : Nat) : Int) else (k : Int)) = ((kS k s : Nat) : Int) := by
 rw [kS, if_neg h]; split <;> rfl
theorem Bk7 {s n : UInt64} (h : s.toNat ≤ 68719476735) (hn : n.toNat ≤ 4294967295) : (Ac3 s n).toNat ≤ 68719476735 := by
 have h1 := s.toNat_lt
 have e : (s + n).toNat = s.toNat + n.toNat := by rw [UInt64.toNat_add]; omega
 have e2 : (s / 16).toNat = s.toNat / 16 := by rw [UInt64.toNat_div]; rfl
 rw [Ac3, UInt64.toNat_sub_of_le _ _ (by rw [UInt64.le_iff_toNat_le, e, e2]; omega), e, e2]; omega
theorem Axa (s n : UInt64) : Ae s (Am n (Db s (GI.toZ (4 : UInt64)).toNat)) = Ac3 s n := by
 have e : Db s (GI.toZ (4 : UInt64)).toNat = s / 16 := by
  apply UInt64.toNat_inj.1
  rw [Afs, UInt64.toNat_div]; rfl
 rw [e, Afj, Ax6, Ac3, UInt64.sub_eq_add_neg, UInt64.sub_eq_add_neg, UInt64.add_assoc]
theorem Bjo (s n : UInt64) : Am (Ae s n) (Bs s (16 : UInt64)) = Ac3 s n := by rw [Afj, Ax6, Asg, Ac3]
theorem Bwk {k : Nat} (h : k ≤ 24) : (Eo (16 : UInt64) k).toNat = 2 ^ (k + 4) := by
 have hp : 2 ^ k ≤ 2 ^ 24 := Nat.pow_le_pow_right (by omega) h
 rw [Al7, Nat.pow_add]
 show 16 * 2 ^ k % _ = 2 ^ k * 16
 rw [Nat.mod_eq_of_lt (by omega), Nat.mul_comm]
theorem Bu6 {k : Nat} (h : k ≤ 24) : (Eo (32 : UInt64) k).toNat = 2 ^ (k + 5) := by
 have hp : 2 ^ k ≤ 2 ^ 24 := Nat.pow_le_pow_right (by omega) h
 rw [Al7, Nat.pow_add]
 show 32 * 2 ^ k % _ = 2 ^ k * 32
 rw [Nat.mod_eq_of_lt (by omega), Nat.mul_comm]
theorem Btq {k : Nat} {s : UInt64} (h : 0 < k) (h2 : s.toNat < 2 ^ (k + 4)) : kS k s = k - 1 := by rw [kS, if_pos ⟨h, h2⟩]
theorem Btf {k : Nat} {s : UInt64} (h : ¬ (0 < k ∧ s.toNat < 2 ^ (k + 4))) (h2 : k < 24) (h3 : 2 ^ (k + 5) < s.toNat) : kS k s = k + 1 := by rw [kS, if_neg h, if_pos ⟨h2, h3⟩]
theorem Bjv {k : Nat} {s : UInt64} (h : ¬ (0 < k ∧ s.toNat < 2 ^ (k + 4))) (h2 : ¬ (k < 24 ∧ 2 ^ (k + 5) < s.toNat)) : kS k s = k := by rw [kS, if_neg h, if_neg h2]
theorem Btj {α : Type} (k : Nat) (hk : k ≤ 24) (s : UInt64) (f : Int → Option α) :
  (if (Hh (k : Int) (0 : Int)) = true then (
   Option.bind (Qx (Tm (k : Int) (0 : Int))) fun _ =>
   if (Dh s (Eo (16 : UInt64) (GI.toZ (k : Int)).toNat)) = true then f (Am (k : Int) (1 : Int))
   else (if (Dh (k : Int) (24 : Int)) = true then (
    Option.bind (Qx (Tm (k : Int) (0 : Int))) fun _ =>
    if (Hh s (Eo (32 : UInt64) (GI.toZ (k : Int)).toNat)) = true then f (Ae (k : Int) (1 : Int)) else f (k : Int))
    else f (k : Int)))
  else (if (Dh (k : Int) (24 : Int)) = true then (
    Option.bind (Qx (Tm (k : Int) (0 : Int))) fun _ =>
    if (Hh s (Eo (32 : UInt64) (GI.toZ (k : Int)).toNat)) = true then f (Ae (k : Int) (1 : Int)) else f (k : Int))
    else f (k : Int))) = f ((kS k s : Nat) : Int) := by
 have z : (GI.toZ (k : Int)).toNat = k := rfl
 rw [z, Bu (by rw [Dz]; simp)]
 simp only [Aa]
 rw [Awt, Ajo, Bwk hk, Bu6 hk]
 by_cases h0 : 0 < k
 ·rw [if_pos (by rw [Au]; simp; omega)]
  by_cases h1 : s.toNat < 2 ^ (k + 4)
  ·rw [if_pos (by simp [h1]), Btq h0 h1, Bk (by omega) (by omega)]; congr 1; omega
  ·rw [if_neg (by simp; omega)]
   by_cases h2 : k < 24
   ·rw [if_pos (by rw [Af]; simp; omega)]
    by_cases h3 : 2 ^ (k + 5) < s.toNat
    ·rw [if_pos (by simp [h3]), Btf (fun h => h1 h.2) h2 h3, Ag (by omega) (by omega)]; rfl
    ·rw [if_neg (by simp; omega), Bjv (fun h => h1 h.2) (fun h => h3 h.2)]
   ·rw [if_neg (by rw [Af]; simp; omega), Bjv (fun h => h1 h.2) (fun h => h2 h.1)]
 ·rw [if_neg (by rw [Au]; simp; omega)]
  by_cases h2 : k < 24
  ·rw [if_pos (by rw [Af]; simp; omega)]
   by_cases h3 : 2 ^ (k + 5) < s.toNat
   ·rw [if_pos (by simp [h3]), Btf (fun h => h0 h.1) h2 h3, Ag (by omega) (by omega)]; rfl
   ·rw [if_neg (by simp; omega), Bjv (fun h => h0 h.1) (fun h => h3 h.2)]
  ·rw [if_neg (by rw [Af]; simp; omega), Bjv (fun h => h0 h.1) (fun h => h2 h.1)]
theorem Bky (k : Nat) (hk : k ≤ 24) (s n : UInt64) : Cz (k : Int) s n = some (((kS k (Ac3 s n) : Nat) : Int), Ac3 s n) := by
 have g1 : Ae (k : Int) 4 = ((k + 4 : Nat) : Int) := by rw [Ag (by omega) (by omega)]; omega
 have g2 : Ae (k : Int) 5 = ((k + 5 : Nat) : Int) := by rw [Ag (by omega) (by omega)]; omega
 have hp : Nt (k : Int) s n = some (if k < 24 ∧ 2 ^ (k + 5) < (Ac3 s n).toNat then ((k + 1 : Nat) : Int) else (k : Int), Ac3 s n) := by
  rw [Nt, Ae9, g2, Afn _ (by omega), Aa, Bjo, Ajo, Ajq (by omega)]
  by_cases h2 : k < 24
  ·rw [if_pos (by rw [Af]; simp; omega)]
   by_cases h3 : 2 ^ (k + 5) < (Ac3 s n).toNat
   ·rw [if_pos (by simp [h3]), if_pos ⟨h2, h3⟩, Ag (by omega) (by omega)]; rfl
   ·rw [if_neg (by simp; omega), if_neg (fun h => h3 h.2)]
  ·rw [if_neg (by rw [Af]; simp; omega), if_neg (fun h => h2 h.1)]
 rw [Cz, Wx, g1, Afn _ (by omega), Aa, Bjo, Awt, Ajq (by omega), hp]
 by_cases h0 : 0 < k
 ·rw [if_pos (by rw [Au]; simp; omega)]
  by_cases h1 : (Ac3 s n).toNat < 2 ^ (k + 4)
  ·rw [if_pos (by simp [h1]), Btq h0 h1, Bk (by omega) (by omega)]; congr 2; omega
  ·rw [if_neg (by simp; omega), Bj6 (fun h => h1 h.2)]
 ·rw [if_neg (by rw [Au]; simp; omega), Bj6 (fun h => h0 h.1)]
def n64 (v : UInt32) : UInt64 := UInt64.ofNat v.toNat
theorem Bn4 (v : UInt32) : (n64 v).toNat ≤ 4294967295 := by have := v.toNat_lt; rw [n64, UInt64.toNat_ofNat', Nat.mod_eq_of_lt (by omega)]; omega
def Auz (k : Nat) (v : UInt32) : UInt32 := UInt32.ofNat (v.toNat - 2 ^ k)
def lK (l : Nat) (t : UInt64) (k : Nat) (v : UInt32) : Nat := if v.toNat < 2 ^ k then l else kS l (Ac3 t (n64 (Auz k v)))
def lT (t : UInt64) (k : Nat) (v : UInt32) : UInt64 := if v.toNat < 2 ^ k then t else Ac3 t (n64 (Auz k v))
theorem Bn8 {k l : Nat} {s t : UInt64} (h : okD k l s t) (v : UInt32) : okD (kS k (Ac3 s (n64 v))) (lK l t k v) (Ac3 s (n64 v)) (lT t k v) := by
 obtain ⟨h1, h2, h3, h4⟩ := h
 refine ⟨Bth h1 _, ?_, Bk7 h3 (Bn4 v), ?_⟩
 ·unfold lK; split; · exact h2
  exact Bth h2 _
 ·unfold lT; split; · exact h4
  exact Bk7 h4 (Bn4 _)
theorem Bus (k l : Nat) (s t : UInt64) (hk : k ≤ 24) (v : UInt32) : Rb (k : Int) (l : Int) s t v = some (decide (v.toNat < 2 ^ k)) := by
 have := v.toNat_lt
 rw [Rb, Afn k (by omega), Aa, Awt, Ajq (by omega), Ia, UInt64.toNat_ofNat', Nat.mod_eq_of_lt (by omega)]
theorem left_eq (k l : Nat) (s t : UInt64) (hk : k ≤ 24) (v : UInt32) (h : ¬ v.toNat < 2 ^ k) : Dj (k : Int) (l : Int) s t v = some (Auz k v) := by
 have := v.toNat_lt
 have e2 : ∀ x : UInt64, (Ad x : UInt32) = UInt32.ofNat x.toNat := fun x => by simp only [Ad, Ic, Er]
 have e3 : (UInt64.ofNat v.toNat).toNat = v.toNat := by rw [UInt64.toNat_ofNat', Nat.mod_eq_of_lt (by omega)]
 rw [Dj, Afn k (by omega), Aa, e2, Ax6, Ia, UInt64.toNat_sub_of_le _ _ (by rw [UInt64.le_iff_toNat_le, Ajq (by omega), e3]; omega), Ajq (by omega), e3, Auz]
theorem Bmi {k l : Nat} {s t : UInt64} (h : okD k l s t) (v : UInt32) : Px (k : Int) (l : Int) s t v = some (((kS k (Ac3 s (n64 v)) : Nat) : Int), ((lK l t k v : Nat) : Int), Ac3 s (n64 v), lT t k v) := by
 obtain ⟨h1, h2, h3, h4⟩ := h
 have hp : ∀ (r1 : Int) (r2 : UInt64), Lc v (k : Int) (l : Int) s t r1 r2 = some (((kS k (Ac3 s (n64 v)) : Nat) : Int), r1, Ac3 s (n64 v), r2) := by
  intro r1 r2
  rw [Lc, Abx, Ia, Bky k h1, Aa]; rfl
 rw [Px, Ku, Bus k l s t h1, Aa]
 by_cases hv : v.toNat < 2 ^ k
 ·rw [if_neg (by simp [hv]), hp, lK, if_pos hv, lT, if_pos hv]
 ·rw [if_pos (by simp; omega), left_eq k l s t h1 v hv, Aa, Ia, Bky l h2, Aa]
  simp only
  rw [hp, lK, if_neg hv, lT, if_neg hv]; rfl
theorem Bo3 (k l : Nat) (s t : UInt64) (hk : k ≤ 24) (v : UInt32) : Anf (k : Int) (l : Int) s t v = some (if v.toNat < 2 ^ k then (0, v) else (1, Auz k v)) := by
 have hp : 2 ^ k ≤ 2 ^ 24 := Nat.pow_le_pow_right (by omega) hk
 have hpos : 0 < 2 ^ k := Nat.pow_pos (by omega)
 have hl := v.toNat_lt
 have z : (GI.toZ (k : Int)).toNat = k := rfl
 have e1 : geq (Db v k) (0 : UInt32) = decide (v.toNat < 2 ^ k) := by
  rw [Bdz, Bool.eq_iff_iff]
  simp only [beq_iff_eq, ← UInt32.toNat_inj, Alz, decide_eq_true_eq]
  show _ / _ = 0 ↔ _
  rw [Nat.div_eq_zero_iff]; omega
 have e2 : ¬ v.toNat < 2 ^ k → Am v (Eo (1 : UInt32) k) = Auz k v := by
  intro h
  have e3 : (Eo (1 : UInt32) k).toNat = 2 ^ k := by rw [Ayo]; show 1 * 2 ^ k % _ = _; rw [Nat.mod_eq_of_lt (by omega), Nat.one_mul]
  apply UInt32.toNat_inj.1
  rw [Bgm, UInt32.toNat_sub_of_le _ _ (by rw [UInt32.le_iff_toNat_le, e3]; omega), e3, Auz, Anj (by omega)]
 rw [Anf, Bu (by rw [Dz]; simp), Aa, Aa, z, e1]
 by_cases h : v.toNat < 2 ^ k
 ·rw [if_pos (by simp [h]), if_pos h]
 ·rw [if_neg (by simp; omega), if_neg h, e2 h]
abbrev Rd := UInt32 × Int × Int × Int × UInt64 × UInt64 × Int
theorem Axz {k l : Nat} {s t : UInt64} (h : okD k l s t) (v : UInt32) (r : Int) : Ahg (k : Int) (l : Int) s t v r = some (v, r, ((kS k (Ac3 s (n64 v)) : Nat) : Int), ((lK l t k v : Nat) : Int), Ac3 s (n64 v), lT t k v, 0) := by
 obtain ⟨h1, h2, h3, h4⟩ := h
 have hp : ∀ (x : Int) (y : UInt64), Abe v r (k : Int) s x y = some (v, r, ((kS k (Ac3 s (n64 v)) : Nat) : Int), x, Ac3 s (n64 v), y, 0) := by
  intro x y
  rw [Abe, Amq, Ia, Axa, Btj k h1]
  rw [Anc, Anp, Akp, Aq8, Ia, Axa]; rfl
 rw [Ahg, Ane, Bo3 k l s t h1, Aa]
 by_cases hv : v.toNat < 2 ^ k
 ·rw [if_pos hv]
  simp only
  rw [if_neg (by rw [Bg]; simp), hp, lK, if_pos hv, lT, if_pos hv]
 ·rw [if_neg hv]
  simp only
  rw [if_pos (by rw [Bg]; rfl), Ia, Axa, Btj l h2 _ (fun x => Abe v r (k : Int) s x (Ac3 t (UInt64.ofNat (Auz k v).toNat))), hp, lK, if_neg hv, lT, if_neg hv]; rfl
def dgS (p : List UInt8) (N a k l : Nat) : UInt32 × Int × Int :=
 if N ≤ a then (0, 0, 24) else
 if Kb p a = 0 then (if N < a + 1 + k then (0, 0, 24) else (UInt32.ofNat (Cd p (a + 1) k), ((a + 1 + k : Nat) : Int), 0)) else
 if (rcS p N (a + 1) l).2.2 ≠ 0 then (0, 0, (rcS p N (a + 1) l).2.2) else
 if 4294967295 < (rcS p N (a + 1) l).1.toNat + 2 ^ k then (0, 0, 12) else (UInt32.ofNat ((rcS p N (a + 1) l).1.toNat + 2 ^ k), (rcS p N (a + 1) l).2.1, 0)
theorem Bua {p : List UInt8} {N a k l : Nat} (h : (dgS p N a k l).2.2 = 0) : (a : Int) < (dgS p N a k l).2.1 ∧ (dgS p N a k l).2.1 ≤ N := by
 revert h
 unfold dgS
 split
 ·simp
 split
 ·split
  ·simp
  ·simp only; omega
 ·split
  ·intro h; contradiction
  ·rename_i h1
   split
   ·simp
   ·intro _
    have := Bud (p := p) (N := N) (a := a + 1) (k := l) (v := (rcS p N (a + 1) l).1) (n := (rcS p N (a + 1) l).2.1) (by
     have e : (rcS p N (a + 1) l).2.2 = 0 := by simpa using h1
     rw [← e])
    simp only; omega
theorem Bq0 {p : List UInt8} {N : Nat} (h : okB p N) (a : Nat) {k l : Nat} {s t : UInt64} (hd : okD k l s t) : Xv p (N : Int) (a : Int) (k : Int) (l : Int) s t =
  some (if (dgS p N a k l).2.2 ≠ 0 then (0, 0, 0, 0, 0, 0, (dgS p N a k l).2.2) else ((dgS p N a k l).1, (dgS p N a k l).2.1, ((kS k (Ac3 s (n64 (dgS p N a k l).1)) : Nat) : Int), ((lK l t k (dgS p N a k l).1 : Nat) : Int), Ac3 s (n64 (dgS p N a k l).1), lT t k (dgS p N a k l).1, 0)) := by
 obtain ⟨h1, h2, h3, h4⟩ := hd
 have hd : okD k l s t := ⟨h1, h2, h3, h4⟩
 have hN := h.1
 have hg := Auj h a 1 (by omega)
 have hb := Yx p a
 rw [Xv, Am9, Ahm h, Aa, if_neg (by rw [Ah]; simp), Bum hd, Aa, if_neg (by rw [Ah]; simp), Amb, Ani]
 refine Eq.trans (congrArg (fun o => Option.bind o _) hg) ?_
 rw [Aa]
 by_cases ha : N ≤ a
 ·have hS : dgS p N a k l = (0, 0, 24) := by rw [dgS, if_pos ha]
  rw [if_pos (by omega), hS]; rfl
 rw [if_neg (by omega)]
 simp only
 have e0 : geq (Wl p a 1) (0 : UInt64) = decide (Kb p a = 0) := by
  rw [Awq, Bool.eq_iff_iff]
  simp only [beq_iff_eq, ← UInt64.toNat_inj, decide_eq_true_eq, Acd p a 1 (by omega), Bgh]; rfl
 have e1 : Ae (a : Int) 1 = ((a + 1 : Nat) : Int) := by rw [Ag (by omega) (by omega)]; omega
 rw [if_neg (by rw [Ah]; simp), e0, e1]
 by_cases hz : Kb p a = 0
 ·rw [if_pos (by simp [hz]), Auj h (a + 1) k (by omega), Aa]
  by_cases h5 : N < a + 1 + k
  ·have hS : dgS p N a k l = (0, 0, 24) := by rw [dgS, if_neg ha, if_pos hz, if_pos h5]
   rw [if_pos h5, hS]; rfl
  ·have hS : dgS p N a k l = (UInt32.ofNat (Cd p (a + 1) k), ((a + 1 + k : Nat) : Int), 0) := by rw [dgS, if_neg ha, if_pos hz, if_neg h5]
   rw [if_neg h5, hS]
   simp only
   rw [if_neg (by rw [Ah]; simp), Axz hd, As4 (by omega), Ag (by omega) (by omega)]; rfl
 ·rw [if_neg (by simp [hz]), Brg h (a + 1) l h2, Aa]
  have hp : 2 ^ k ≤ 2 ^ 24 := Nat.pow_le_pow_right (by omega) h1
  by_cases h5 : (rcS p N (a + 1) l).2.2 ≠ 0
  ·have hS : dgS p N a k l = (0, 0, (rcS p N (a + 1) l).2.2) := by rw [dgS, if_neg ha, if_neg hz, if_pos h5]
   rw [hS]
   generalize rcS p N (a + 1) l = R at *
   obtain ⟨v, n, e⟩ := R
   simp only at *
   rw [if_pos (by rw [Ah]; simpa using h5), if_pos h5]
  ·have hv := (rcS p N (a + 1) l).1.toNat_lt
   have z : (GI.toZ (k : Int)).toNat = k := rfl
   have e3 : (Eo (1 : UInt32) k).toNat = 2 ^ k := by rw [Ayo]; show 1 * 2 ^ k % _ = _; rw [Nat.mod_eq_of_lt (by omega), Nat.one_mul]
   by_cases h6 : 4294967295 < (rcS p N (a + 1) l).1.toNat + 2 ^ k
   ·have hS : dgS p N a k l = (0, 0, 12) := by rw [dgS, if_neg ha, if_neg hz, if_neg h5, if_pos h6]
    rw [hS]
    generalize rcS p N (a + 1) l = R at *
    obtain ⟨v, n, e⟩ := R
    simp only at *
    rw [if_neg (by rw [Ah]; simpa using h5), Bu (by rw [Dz]; simp), Aa, z, if_pos (by rw [Bj0, Axe, UInt32.toNat_add, e3]; simp; omega), if_pos (by decide)]
   ·have hS : dgS p N a k l = (UInt32.ofNat ((rcS p N (a + 1) l).1.toNat + 2 ^ k), (rcS p N (a + 1) l).2.1, 0) := by rw [dgS, if_neg ha, if_neg hz, if_neg h5, if_neg h6]
    rw [hS]
    generalize rcS p N (a + 1) l = R at *
    obtain ⟨v, n, e⟩ := R
    simp only at *
    have e4 : Ae v (Eo (1 : UInt32) k) = UInt32.ofNat (v.toNat + 2 ^ k) := by
     apply UInt32.toNat_inj.1
     rw [Axe, UInt32.toNat_add, e3, Anj (by omega), Nat.mod_eq_of_lt (by omega)]
    rw [if_neg (by rw [Ah]; simpa using h5), Bu (by rw [Dz]; simp), Aa, z, if_neg (by rw [Bj0, Axe, UInt32.toNat_add, e3]; simp; omega), e4, Axz hd]; rfl
theorem Bod {p : List UInt8} {N : Nat} (h : okB p N) (a : Nat) (k l : Nat) (s t : UInt64) (h1 : k ≤ 24) (h2 : l ≤ 24) : Xw p (N : Int) (a : Int) (k : Int) (l : Int) s t = some (dgS p N a k l) := by
 have hN := h.1
 have hl := h.2.1
 have hb := Yx p a
 rw [Xw]
 by_cases ha : N ≤ a
 ·rw [if_pos (by rw [Dz]; simp; omega), dgS, if_pos ha]
 rw [if_neg (by rw [Dz]; simp; omega), Auv p _ a (by omega) (by omega), Aa, Bk (a := (N : Int)) (b := (a : Int)) (by omega) (by omega), Bk (by omega) (by omega)]
 have e1 : Ae (a : Int) 1 = ((a + 1 : Nat) : Int) := by rw [Ag (by omega) (by omega)]; omega
 rw [e1]
 by_cases hz : Kb p a = 0
 ·rw [if_pos (by rw [Bg]; simp [hz])]
  by_cases h5 : N < a + 1 + k
  ·rw [if_pos (by rw [Af]; simp; omega), dgS, if_neg ha, if_pos hz, if_pos h5]
  ·rw [if_neg (by rw [Af]; simp; omega), Ar3 p _ (a + 1) k (by omega) (by omega), Aa, dgS, if_neg ha, if_pos hz, if_neg h5, As4 (by omega), Ag (by omega) (by omega)]; rfl
 ·rw [if_neg (by rw [Bg]; simp; omega), Bnv h (a + 1) l h2, Aa]
  have hp : 2 ^ k ≤ 2 ^ 24 := Nat.pow_le_pow_right (by omega) h1
  have hv := (rcS p N (a + 1) l).1.toNat_lt
  have e2 : ∀ x : UInt64, (Ad x : UInt32) = UInt32.ofNat x.toNat := fun x => by simp only [Ad, Ic, Er]
  by_cases h5 : (rcS p N (a + 1) l).2.2 ≠ 0
  ·have hS : dgS p N a k l = (0, 0, (rcS p N (a + 1) l).2.2) := by rw [dgS, if_neg ha, if_neg hz, if_pos h5]
   rw [hS]
   generalize rcS p N (a + 1) l = R at *
   obtain ⟨v, n, e⟩ := R
   simp only at *
   rw [if_pos (by rw [Ah]; simpa using h5)]
  ·have hsum : ∀ v : UInt32, (Ae (Ad v : UInt64) (UInt64.ofNat (2 ^ k))).toNat = v.toNat + 2 ^ k := by
    intro v
    have := v.toNat_lt
    have := Nat.pow_pos (n := k) (show 0 < 2 by omega)
    rw [Afj, UInt64.toNat_add, Ia, Ajq (by omega), UInt64.toNat_ofNat']; omega
   by_cases h6 : 4294967295 < (rcS p N (a + 1) l).1.toNat + 2 ^ k
   ·have hS : dgS p N a k l = (0, 0, 12) := by rw [dgS, if_neg ha, if_neg hz, if_neg h5, if_pos h6]
    rw [hS]
    generalize rcS p N (a + 1) l = R at *
    obtain ⟨v, n, e⟩ := R
    simp only at *
    rw [if_neg (by rw [Ah]; simpa using h5), Afn k (by omega), Aa, if_pos (by rw [Ajo, hsum]; simpa using h6)]
   ·have hS : dgS p N a k l = (UInt32.ofNat ((rcS p N (a + 1) l).1.toNat + 2 ^ k), (rcS p N (a + 1) l).2.1, 0) := by rw [dgS, if_neg ha, if_neg hz, if_neg h5, if_neg h6]
    rw [hS]
    generalize rcS p N (a + 1) l = R at *
    obtain ⟨v, n, e⟩ := R
    simp only at *
    rw [if_neg (by rw [Ah]; simpa using h5), Afn k (by omega), Aa, if_neg (by rw [Ajo, hsum]; simpa using h6), e2, hsum]
end Go.Pl
set_option linter.unusedVariables false
set_option linter.unusedSimpArgs false
namespace Go.Pl
open Go Go.Lv
abbrev DuN := Nat × Nat × UInt64 × UInt64
def okN (d : DuN) : Prop := okD d.1 d.2.1 d.2.2.1 d.2.2.2
def nxt (d : DuN) (v : UInt32) : DuN := (kS d.1 (Ac3 d.2.2.1 (n64 v)), lK d.2.1 d.2.2.2 d.1 v, Ac3 d.2.2.1 (n64 v), lT d.2.2.2 d.1 v)
def Bcv : DuN := (10, 10, 16384, 16384)
theorem Bpm : okN Bcv := ⟨by decide, by decide, by decide, by decide⟩
theorem Bt5 {d : DuN} (h : okN d) (v : UInt32) : okN (nxt d v) := Bn8 h v
abbrev DuL := Int × Int × UInt64 × UInt64 × Unit
def toI (d : DuN) : DuL := ((d.1 : Int), (d.2.1 : Int), d.2.2.1, d.2.2.2, ())
def chP (ch : Nat) (v : List UInt32) (c : Nat) : Nat → DuN
 | 0 => Bcv
 | m + 1 => if m % ch = c then nxt (chP ch v c m) (v.getD m 0) else chP ch v c m
theorem At7 (ch : Nat) (v : List UInt32) (c : Nat) : ∀ m, okN (chP ch v c m)
 | 0 => Bpm
 | m + 1 => by rw [chP]; split; exact Bt5 (At7 ch v c m) _; exact At7 ch v c m
theorem Bkb (ch : Nat) (v w : List UInt32) (c : Nat) : ∀ m, m ≤ v.length → chP ch (v ++ w) c m = chP ch v c m
 | 0, _ => rfl
 | m + 1, h => by
  have e : (v ++ w).getD m 0 = v.getD m 0 := by simp [List.getD_eq_getElem?_getD, List.getElem?_append_left (show m < v.length by omega)]
  rw [chP, chP, Bkb ch v w c m (by omega), e]
theorem Bds (ch : Nat) (v : List UInt32) (c : Nat) : ∀ m, m ≤ c → c < ch → chP ch v c m = Bcv
 | 0, _, _ => rfl
 | m + 1, h, h2 => by rw [chP, if_neg (by rw [Nat.mod_eq_of_lt (by omega)]; omega), Bds ch v c m (by omega) h2]
theorem Bhj (ch : Nat) (v : List UInt32) (c i : Nat) (hi : i % ch = c) (hc : c < ch) : ∀ j, j < ch → chP ch v c (i + 1 + j) = chP ch v c (i + 1)
 | 0, _ => rfl
 | j + 1, h => by
  have hne : (i + 1 + j) % ch ≠ c := by
   intro e
   have h1 : (i + (1 + j)) % ch = i % ch := by rw [hi, ← e]; congr 1; omega
   have h2 : (1 + j) % ch = 0 := by
    have h3 := Nat.sub_mod_eq_zero_of_mod_eq h1
    rwa [Nat.add_sub_cancel_left] at h3
   rw [Nat.mod_eq_of_lt (by omega)] at h2; omega
  rw [show i + 1 + (j + 1) = (i + 1 + j) + 1 by omega, chP, if_neg hne, Bhj ch v c i hi hc j (by omega)]
theorem Bpv (ch : Nat) (v : List UInt32) (c i : Nat) (hi : i % ch = c) (hc : c < ch) : chP ch v c (i + ch) = nxt (chP ch v c i) (v.getD i 0) := by
 have h := Bhj ch v c i hi hc (ch - 1) (by omega)
 rw [show i + 1 + (ch - 1) = i + ch by omega] at h
 rw [h, chP, if_pos hi]
theorem Ax5 {l : List UInt32} {k : Nat} (h : k < l.length) : getI l (k : Int) = some (l.getD k 0) := by
 rw [Cq h]; simp [List.getD_eq_getElem?_getD, h]
theorem Ar7 (a b : Nat) : Jd (a : Int) (b : Int) = ((a % b : Nat) : Int) := by rw [Jd, Int.tmod_eq_emod_of_nonneg (by omega)]; omega
theorem Au7 (ch : Nat) (v : List UInt32) (hch : 1 ≤ ch) (hch6 : ch ≤ 6) (hv : v.length ≤ 4000) : ∀ (j i q : Nat), i % ch = v.length % ch → i ≤ v.length → v.length - i ≤ j → j < q →
  Hm (ch : Int) v q (i : Int) ((chP ch v (v.length % ch) i).1 : Int) ((chP ch v (v.length % ch) i).2.1 : Int) (chP ch v (v.length % ch) i).2.2.1 (chP ch v (v.length % ch) i).2.2.2 =
   some (((chP ch v (v.length % ch) v.length).1 : Int), ((chP ch v (v.length % ch) v.length).2.1 : Int), (chP ch v (v.length % ch) v.length).2.2.1, (chP ch v (v.length % ch) v.length).2.2.2)
 | j, i, q + 1, hi, hl, hj, hq => by
  have hc : v.length % ch < ch := Nat.mod_lt _ (by omega)
  rw [Hm, Sn]
  by_cases h : i < v.length
  ·have h1 := Bmi (At7 ch v (v.length % ch) i) (v.getD i 0)
   rw [if_pos (by rw [Af, Ac]; simp; omega), Ax5 h, Aa, h1, Aa]
   have hle : i + ch ≤ v.length := by
    have h2 := Nat.div_add_mod i ch
    have h3 := Nat.div_add_mod v.length ch
    rw [hi] at h2
    have h4 : ch * (i / ch) < ch * (v.length / ch) := by omega
    have h5 := Nat.lt_of_mul_lt_mul_left h4
    have h6 : ch * (i / ch + 1) ≤ ch * (v.length / ch) := Nat.mul_le_mul_left _ h5
    rw [Nat.mul_add] at h6; omega
   have ih := Au7 ch v hch hch6 hv (j - ch) (i + ch) q (by rw [Nat.add_mod_right]; exact hi) hle (by omega) (by omega)
   rw [Bpv ch v _ i hi hc] at ih
   simp only
   rw [Ag (by omega) (by omega)]
   exact ih
  ·rw [if_neg (by rw [Af, Ac]; simp; omega), show i = v.length by omega]; rfl
theorem Blb (ch : Nat) (v : List UInt32) (hch : 1 ≤ ch) (hch6 : ch ≤ 6) (hv : v.length ≤ 4000) : Kl (ch : Int) v = some (((chP ch v (v.length % ch) v.length).1 : Int), ((chP ch v (v.length % ch) v.length).2.1 : Int), (chP ch v (v.length % ch) v.length).2.2.1, (chP ch v (v.length % ch) v.length).2.2.2) := by
 have hc : v.length % ch < ch := Nat.mod_lt _ (by omega)
 have hle : v.length % ch ≤ v.length := Nat.mod_le _ _
 have h := Au7 ch v hch hch6 hv v.length (v.length % ch) Ba (by rw [Nat.mod_mod]) hle (by omega) (by have := Ap; omega)
 rw [Bds ch v _ _ (Nat.le_refl _) hc] at h
 rw [Kl, Rn, Ip, Aa]
 simp only
 rw [Bu (by rw [Ah]; simp; omega), Aa, Ac, Ar7]
 exact h
def now (ch : Nat) (v : List UInt32) : DuN := chP ch v (v.length % ch) v.length
def win (N a : Nat) : Nat := min 81 (N - a)
def Ky (ch : Nat) (p : List UInt8) (N a : Nat) (out : List UInt32) : UInt32 × Int × Int := dgS (Aeg p a (win N a)) (win N a) 0 (now ch out).1 (now ch out).2.1
def Aba (ch : Nat) (p : List UInt8) (N : Nat) : Nat → Nat → List UInt32 → List UInt32 × Nat × Int
 | 0, a, out => (out, a, 0)
 | j + 1, a, out => if (Ky ch p N a out).2.2 ≠ 0 then (out, a, (Ky ch p N a out).2.2) else Aba ch p N j (a + (Ky ch p N a out).2.1.toNat) (out ++ [(Ky ch p N a out).1])
theorem Ap6 {ch : Nat} {p : List UInt8} {N a : Nat} {out : List UInt32} (h : (Ky ch p N a out).2.2 = 0) : 0 < (Ky ch p N a out).2.1 ∧ (Ky ch p N a out).2.1 ≤ win N a := by
 have := Bua h
 exact ⟨this.1, this.2⟩
theorem Baw {ch : Nat} {p : List UInt8} {N a : Nat} {out : List UInt32} (h : (Ky ch p N a out).2.2 = 0) : ((a : Int) + (Ky ch p N a out).2.1) = ((a + (Ky ch p N a out).2.1.toNat : Nat) : Int) := by
 have := Ap6 h; omega
def sts (ch : Nat) (v : List UInt32) : List DuL := (List.range 6).map fun c => toI (chP ch v c v.length)
theorem Bki {ch : Nat} {v : List UInt32} {c : Nat} (h : c < 6) : getI (sts ch v) (c : Int) = some (toI (chP ch v c v.length)) := by
 rw [Cq (by simp [sts]; exact h)]; simp [sts]
theorem Br1 {ch : Nat} {v : List UInt32} {c : Nat} (x : UInt32) (h : c < 6) (hc : c = v.length % ch) : Qh (sts ch v) (c : Int) (toI (nxt (chP ch v c v.length) x)) = some (sts ch (v ++ [x])) := by
 rw [We _ (by simp [sts]; exact h)]
 congr 1
 apply List.ext_getElem (by simp [sts])
 intro i h1 h2
 rw [List.getElem_set]
 simp only [sts, List.getElem_map, List.getElem_range]
 have e : (v ++ [x]).getD v.length 0 = x := by simp
 rw [List.length_append, List.length_singleton, chP, e, Bkb ch v [x] i v.length (Nat.le_refl _)]
 by_cases hi : c = i
 ·subst hi; rw [if_pos rfl, if_pos hc.symm]
 ·rw [if_neg hi, if_neg (by omega)]
section
variable {p : List UInt8} {N ch n : Nat}
theorem Bg8 (hp : okB p N) (h1 : 1 ≤ ch) (h6 : ch ≤ 6) (hn : n * ch ≤ 4000) : ∀ (j a q : Nat) (out : List UInt32), out.length + j = n * ch → j < q → a ≤ N →
  Ln (ch : Int) (n : Int) p (N : Int) q (a : Int) (out.length : Int) (sts ch out) out =
   some (if (Aba ch p N j a out).2.2 ≠ 0 then ([], 0, (Aba ch p N j a out).2.2) else ((Aba ch p N j a out).1, ((Aba ch p N j a out).2.1 : Int), 0))
 | j, a, q + 1, out, hj, hq, ha => by
  have hN := hp.1
  have hnn : n ≤ n * ch := Nat.le_mul_of_pos_right n (by omega)
  have em : Bj (n : Int) (ch : Int) = ((n * ch : Nat) : Int) := by rw [Gt (by rw [← Int.natCast_mul]; omega) (by rw [← Int.natCast_mul]; omega), Int.natCast_mul]
  rw [Ln, Tg, em]
  cases j with
  | zero =>
   rw [if_neg (by rw [Af]; simp; omega)]; rfl
  | succ j =>
   have hc : out.length % ch < 6 := Nat.lt_of_lt_of_le (Nat.mod_lt _ (by omega)) h6
   have ew : Hf (Ae (a : Int) 81) (N : Int) = ((a + win N a : Nat) : Int) := by rw [Akj, Ag (by omega) (by omega)]; unfold win; omega
   have hw : a + win N a ≤ N := by unfold win; omega
   have hw2 : win N a ≤ 81 := by unfold win; omega
   have hd := Bq0 (Bko p a (win N a) (by omega)) 0 (At7 ch out (out.length % ch) out.length)
   have ecode : dgS (Aeg p a (win N a)) (win N a) 0 (chP ch out (out.length % ch) out.length).1 (chP ch out (out.length % ch) out.length).2.1 = Ky ch p N a out := rfl
   rw [if_pos (by rw [Af]; simp; omega), ew, Buy hp a _ hw (by omega), Aa]
   simp only
   rw [if_neg (by rw [Ah]; simp), Bu (by rw [Ah]; simp; omega), Aa, Ar7, Bki hc, Aa, Aa]
   refine Eq.trans (congrArg (fun o => Option.bind o _) hd) ?_
   rw [Aa, ecode, Aba]
   by_cases he : (Ky ch p N a out).2.2 ≠ 0
   ·rw [if_pos he, if_pos he]
    simp only
    rw [Sg, Sf, if_pos (by rw [Ah]; simpa using he), if_pos he]
   ·have he0 : (Ky ch p N a out).2.2 = 0 := by simpa using he
    have hok := Ap6 he0
    have hset := Br1 (ch := ch) (v := out) (Ky ch p N a out).1 hc rfl
    rw [if_neg he, if_neg he]
    simp only
    rw [Sg, Sf, if_neg (by rw [Ah]; simp), Bu (by rw [Ah]; simp; omega), Aa, Ar7, Bki hc, Aa]
    refine Eq.trans (congrArg (fun o => Option.bind o _) hset) ?_
    rw [Aa, Aaf, Ah3, Dc (by simp; omega), Aa, Ag (by omega) (by omega), Ag (by omega) (by omega), Baw he0]
    have ih := Bg8 hp h1 h6 hn j (a + (Ky ch p N a out).2.1.toNat) q (out ++ [(Ky ch p N a out).1]) (by simp; omega) (by omega) (by omega)
    rw [List.length_append, List.length_singleton] at ih
    exact ih
theorem Bkd {p : List UInt8} (hN : N = 8 * p.length) (hN2 : N ≤ 330000) (h1 : 1 ≤ ch) (h6 : ch ≤ 6) (hn : n * ch ≤ 4000) : ∀ (j a q : Nat) (out : List UInt32), out.length + j = n * ch → j < q → a ≤ N →
  Du (ch : Int) (n : Int) p q (a : Int) (out.length : Int) out =
   if (Aba ch p N j a out).2.2 ≠ 0 then some ((Aba ch p N j a out).1, (Aba ch p N j a out).2.2) else Mq ((Aba ch p N j a out).2.1 : Int) p (Aba ch p N j a out).1
 | j, a, q + 1, out, hj, hq, ha => by
  have hnn : n ≤ n * ch := Nat.le_mul_of_pos_right n (by omega)
  have em : Bj (n : Int) (ch : Int) = ((n * ch : Nat) : Int) := by rw [Gt (by rw [← Int.natCast_mul]; omega) (by rw [← Int.natCast_mul]; omega), Int.natCast_mul]
  have e8 : Bj (8 : Int) (Ac p) = (N : Int) := by rw [Ac, Gt (by omega) (by omega)]; omega
  rw [Du, Ug, em]
  cases j with
  | zero =>
   rw [if_neg (by rw [Af]; simp; omega)]; rfl
  | succ j =>
   have ew : Hf (Ae (a : Int) 81) (N : Int) = ((a + win N a : Nat) : Int) := by rw [Akj, Ag (by omega) (by omega)]; unfold win; omega
   have hw : a + win N a ≤ N := by unfold win; omega
   have hw2 : win N a ≤ 81 := by unfold win; omega
   have hpre : (Option.bind Ip fun (r_4, r_5, r_6, r_7) =>
     if (Tm (out.length : Int) (ch : Int)) = true then (
     Option.bind (Kl (ch : Int) out) fun (r_8, r_9, r_10, r_11) =>
     Gf (Du (ch : Int) (n : Int) p q) (ch : Int) (n : Int) p (a : Int) (out.length : Int) out r_8 r_9 r_10 r_11)
     else Gf (Du (ch : Int) (n : Int) p q) (ch : Int) (n : Int) p (a : Int) (out.length : Int) out r_4 r_5 r_6 r_7) =
     Gf (Du (ch : Int) (n : Int) p q) (ch : Int) (n : Int) p (a : Int) (out.length : Int) out ((now ch out).1 : Int) ((now ch out).2.1 : Int) (now ch out).2.2.1 (now ch out).2.2.2 := by
    rw [Ip, Aa]
    by_cases hc : ch ≤ out.length
    ·simp only
     rw [if_pos (by rw [Dz]; simp; omega), Blb ch out h1 h6 (by omega), Aa]; rfl
    ·have e : now ch out = Bcv := by rw [now, Nat.mod_eq_of_lt (by omega), Bds ch out _ _ (Nat.le_refl _) (by omega)]
     simp only
     rw [if_neg (by rw [Dz]; simp; omega), e]; rfl
   have hd := Bod (Bko p a (win N a) (by omega)) 0 (now ch out).1 (now ch out).2.1 (now ch out).2.2.1 (now ch out).2.2.2 (At7 ch out _ _).1 (At7 ch out _ _).2.1
   have ecode : dgS (Aeg p a (win N a)) (win N a) 0 (now ch out).1 (now ch out).2.1 = Ky ch p N a out := rfl
   rw [if_pos (by rw [Af]; simp; omega), hpre, Gf, Adv, e8, ew, Bgk p (N : Int) a _ (by omega) (by omega) (by omega), Aa]
   simp only
   refine Eq.trans (congrArg (fun o => Option.bind o _) hd) ?_
   rw [Aa, ecode, Aba]
   by_cases he : (Ky ch p N a out).2.2 ≠ 0
   ·rw [if_pos he, if_pos (by rw [Ah]; simpa using he), if_pos he]
   ·have he0 : (Ky ch p N a out).2.2 = 0 := by simpa using he
    have hok := Ap6 he0
    have ih := Bkd hN hN2 h1 h6 hn j (a + (Ky ch p N a out).2.1.toNat) q (out ++ [(Ky ch p N a out).1]) (by simp; omega) (by omega) (by omega)
    have hx := Baw he0
    rw [List.length_append, List.length_singleton] at ih
    rw [if_neg he]
    generalize Ky ch p N a out = R at *
    obtain ⟨v, nx, e⟩ := R
    simp only at *
    rw [if_neg (by rw [Ah]; simpa using he), Dc (by simp; omega), Aa, Ag (by omega) (by omega), Ag (by omega) (by omega), hx]
    exact ih
end
theorem Bd5 {ch : Nat} {p : List UInt8} {N : Nat} : ∀ (j a : Nat) (out : List UInt32), a ≤ N → (Aba ch p N j a out).2.1 ≤ N ∧ (Aba ch p N j a out).1.length ≤ out.length + j ∧ ((Aba ch p N j a out).2.2 = 0 → (Aba ch p N j a out).1.length = out.length + j)
 | 0, a, out, h => ⟨h, Nat.le_refl _, fun _ => rfl⟩
 | j + 1, a, out, h => by
  rw [Aba]
  split
  ·rename_i he
   exact ⟨h, by simp, fun e => absurd e he⟩
  ·rename_i he
   have hok := Ap6 (ch := ch) (p := p) (N := N) (a := a) (out := out) (by simpa using he)
   have hw : a + win N a ≤ N := by unfold win; omega
   have ih := Bd5 (ch := ch) (p := p) (N := N) j (a + (Ky ch p N a out).2.1.toNat) (out ++ [(Ky ch p N a out).1]) (by omega)
   rw [List.length_append, List.length_singleton] at ih
   exact ⟨ih.1, by omega, fun e => by have := ih.2.2 e; omega⟩
theorem Be0 (ch n : Int) (b : List UInt8) (N : Int) : Tf ch n b N 0 (List.replicate 6 ((0 : Int), (0 : Int), (0 : UInt64), (0 : UInt64), ())) = Zv ch n b N (List.replicate 6 ((10 : Int), (10 : Int), (16384 : UInt64), (16384 : UInt64), ())) := by
 have e : Ba = (Ba - 7) + 1 + 1 + 1 + 1 + 1 + 1 + 1 := by have := Ap; omega
 rw [Tf, e]
 rfl
theorem values_eq {p : List UInt8} {N ch n : Nat} (hp : okB p N) (h1 : 1 ≤ ch) (h6 : ch ≤ 6) (hn : n * ch ≤ 4000) : Acw (ch : Int) (n : Int) p (N : Int) =
  some (if (Aba ch p N (n * ch) 0 []).2.2 ≠ 0 then ([], 0, (Aba ch p N (n * ch) 0 []).2.2) else ((Aba ch p N (n * ch) 0 []).1, ((Aba ch p N (n * ch) 0 []).2.1 : Int), 0)) := by
 have h := Bg8 hp h1 h6 hn (n * ch) 0 Ba [] (by simp) (by have := Ap; omega) (by omega)
 rw [Acw, Ac4, Be0]
 exact h
theorem Bci (p : List UInt8) (x : List UInt32) (N : Nat) (hN : N = 8 * p.length) (hN2 : N ≤ 330000) : ∀ (j a q : Nat), a + j = N → j < q → Gj p x q (a : Int) = some (x, if Cd p a j = 0 then 0 else 12)
 | 0, a, q + 1, ha, _ => by
  have e8 : Bj (8 : Int) (Ac p) = (N : Int) := by rw [Ac, Gt (by omega) (by omega)]; omega
  rw [Gj, Mt, e8, if_neg (by rw [Af]; simp; omega), Cd, if_pos rfl]; rfl
 | j + 1, a, q + 1, ha, hq => by
  have e8 : Bj (8 : Int) (Ac p) = (N : Int) := by rw [Ac, Gt (by omega) (by omega)]; omega
  have hb := Yx p a
  rw [Gj, Mt, e8, if_pos (by rw [Af]; simp; omega), Auv p _ a (by omega) (by omega), Aa, Cd]
  by_cases h : Kb p a = 0
  ·rw [if_neg (by rw [Ah]; simp [h]), Ag (by omega) (by omega), h]
   have ih := Bci p x N hN hN2 j (a + 1) q (by omega) (by omega)
   rw [show ((a : Int) + 1) = ((a + 1 : Nat) : Int) by omega, ih]
   congr 2
   by_cases hv : Cd p (a + 1) j = 0
   ·rw [if_pos hv, if_pos (by omega)]
   ·rw [if_neg hv, if_neg (by omega)]
  ·rw [if_pos (by rw [Ah]; simp; omega), if_neg (by omega)]
theorem Bsi {p : List UInt8} {N ch n : Nat} (hN : N = 8 * p.length) (hN2 : N ≤ 330000) (h1 : 1 ≤ ch) (h6 : ch ≤ 6) (hn : n * ch ≤ 4000) : Vh (ch : Int) (n : Int) p =
  some (if (Aba ch p N (n * ch) 0 []).2.2 ≠ 0 then ((Aba ch p N (n * ch) 0 []).1, (Aba ch p N (n * ch) 0 []).2.2) else
   ((Aba ch p N (n * ch) 0 []).1, if 7 < N - (Aba ch p N (n * ch) 0 []).2.1 ∨ Cd p (Aba ch p N (n * ch) 0 []).2.1 (N - (Aba ch p N (n * ch) 0 []).2.1) ≠ 0 then 12 else 0)) := by
 have h := Bkd hN hN2 h1 h6 hn (n * ch) 0 Ba [] (by simp) (by have := Ap; omega) (by omega)
 have hat := (Bd5 (ch := ch) (p := p) (N := N) (n * ch) 0 [] (by omega)).1
 have e8 : Bj (8 : Int) (Ac p) = (N : Int) := by rw [Ac, Gt (by omega) (by omega)]; omega
 rw [Vh, Vz]
 refine Eq.trans h ?_
 generalize Aba ch p N (n * ch) 0 [] = V at *
 obtain ⟨v, a, e⟩ := V
 simp only at *
 by_cases he : e ≠ 0
 ·rw [if_pos he, if_pos he]
 ·rw [if_neg he, if_neg he, Mq, Ux, e8, Bk (by omega) (by omega)]
  by_cases h7 : 7 < N - a
  ·rw [if_pos (by rw [Au]; simp; omega), if_pos (.inl h7)]
  ·rw [if_neg (by rw [Au]; simp; omega), Ui, Bci p v N hN hN2 (N - a) a Ba (by omega) (by have := Ap; omega)]
   by_cases hv : Cd p a (N - a) = 0
   ·rw [if_pos hv, if_neg (by omega)]
   ·rw [if_neg hv, if_pos (.inr hv)]
end Go.Pl
set_option linter.unusedVariables false
set_option linter.unusedSimpArgs false
namespace Go.Pl
open Go Go.Lv
theorem Bd1 (n : Int) : (GI.ofZ n : Int32) = Int32.ofInt n := rfl
theorem Ae2 (a : Int32) : GI.toZ a = a.toInt := rfl
theorem Ak9 (a b : Int32) : Ae a b = a + b := by
 rw [Ae, Ae2, Ae2, Bd1, Int32.ofInt_add, Int32.ofInt_toInt, Int32.ofInt_toInt]
theorem Ay9 (a b : Int32) : Am a b = a - b := by
 rw [Am, Ae2, Ae2, Bd1, Int32.ofInt_sub, Int32.ofInt_toInt, Int32.ofInt_toInt]
theorem Bkv (a b : Int32) : geq a b = (a == b) := by
 rw [geq, Ae2, Ae2, Bool.eq_iff_iff]; simp [Int32.toInt_inj]
theorem Br4 (a b : Int32) : Cl a b = (a != b) := by
 rw [Cl, Ae2, Ae2, Bool.eq_iff_iff]; simp [Int32.toInt_inj]
def sel (p : Nat → Bool) (a b : List Int32) : List Int32 := (List.range a.length).map fun k => if p k = true then a.getD k 0 else b.getD k 0
section
variable {p q : Nat → Bool} {a b : List Int32}
theorem Am1 : (sel p a b).length = a.length := by simp [sel]
theorem Mr {k : Nat} (h : k < a.length) : a.getD k 0 = a[k] := by simp [List.getD_eq_getElem?_getD, h]
theorem Aaz {k : Nat} (h : k < (sel p a b).length) : (sel p a b)[k] = if p k = true then a.getD k 0 else b.getD k 0 := by simp [sel]
theorem Ajj {k : Nat} (h : k < a.length) : getI (sel p a b) (k : Int) = some (if p k = true then a.getD k 0 else b.getD k 0) := by
 rw [Cq (by rw [Am1]; exact h), Aaz]
theorem Aar (h : ∀ k, k < a.length → p k = q k) : sel p a b = sel q a b := by
 apply List.map_congr_left
 intro k hk
 rw [h k (List.mem_range.1 hk)]
theorem Atl {k : Nat} (h : k < a.length) : Qh (sel p a b) (k : Int) (a.getD k 0) = some (sel (fun j => p j || decide (j = k)) a b) := by
 rw [We _ (by rw [Am1]; exact h)]
 congr 1
 apply List.ext_getElem (by simp [Am1])
 intro i h1 h2
 rw [List.getElem_set, Aaz, Aaz]
 by_cases hi : k = i
 ·subst hi; simp
 ·have : ¬ i = k := fun e => hi e.symm
  simp [hi, this]
theorem Atj (h : ∀ k, k < a.length → p k = true) : sel p a b = a := by
 apply List.ext_getElem (by simp [Am1])
 intro i h1 h2
 rw [Aaz, if_pos (h i h2), Mr h2]
theorem Ata (hl : b.length = a.length) (h : ∀ k, k < a.length → p k = false) : sel p a b = b := by
 apply List.ext_getElem (by simp [Am1, hl])
 intro i h1 h2
 rw [Aaz, h i (by omega)]
 simp [List.getD_eq_getElem?_getD, h2]
end
end Go.Pl
set_option linter.unusedVariables false
set_option linter.unusedSimpArgs false
namespace Go.Pl
open Go Go.Lv
theorem Axu (a b : Int32) : Bj a b = a * b := by
 rw [Bj, Ae2, Ae2, Bd1, Int32.ofInt_mul, Int32.ofInt_toInt, Int32.ofInt_toInt]
theorem Ac6 (a : Int32) : -2147483648 ≤ a.toInt ∧ a.toInt < 2147483648 := ⟨a.le_toInt, a.toInt_lt⟩
theorem Ff (a : Int32) : (Ad a : Int) = a.toInt := by
 have := Ac6 a
 show wrap64 a.toInt = _
 rw [Cf] <;> omega
theorem Ahl (n : Int) : (Ad n : Int32) = Int32.ofInt n := rfl
theorem Bm6 (x : Int) : Int32.ofInt (x % 4294967296) = Int32.ofInt x := by
 apply Int32.toInt_inj.1
 rw [Int32.toInt_ofInt, Int32.toInt_ofInt]
 exact Int.emod_bmod x 4294967296
theorem Awj (x : Int) : By x = some (Int32.ofInt x) := by
 have e1 : (Ad x : UInt64).toNat = (x % 18446744073709551616).toNat := by
  rw [Bfu, UInt64.toNat_ofNat', Nat.mod_eq_of_lt (by omega)]
 have e2 : (Ad (Ad x : UInt64) : UInt32).toNat = (x % 4294967296).toNat := by
  have e : (Ad (Ad x : UInt64) : UInt32) = UInt32.ofNat (Ad x : UInt64).toNat := by simp only [Ad, Ic, Er]
  rw [e, UInt32.toNat_ofNat', e1]
  show (x % 18446744073709551616).toNat % 4294967296 = _
  omega
 have e3 : (Ad (Ad (Ad x : UInt64) : UInt32) : Int32) = Int32.ofInt ((Ad (Ad x : UInt64) : UInt32).toNat : Int) := rfl
 rw [By, e3, e2, ← Bm6 x]
 congr 2; omega
theorem Asd (a b : Int32) : By (Ae (Ad a : Int) (Ad b : Int)) = some (a + b) := by
 have := Ac6 a
 have := Ac6 b
 rw [Ff, Ff, Ag (by omega) (by omega), Awj, Int32.ofInt_add, Int32.ofInt_toInt, Int32.ofInt_toInt]
theorem Bpf (a b : Int32) : By (Bj (Ad a : Int) (Ad b : Int)) = some (a * b) := by
 have ha := Ac6 a
 have hb := Ac6 b
 have h1 : -9223372036854775808 ≤ a.toInt * b.toInt ∧ a.toInt * b.toInt ≤ 9223372036854775807 := by
  have h2 : (a.toInt * b.toInt).natAbs ≤ 2147483648 * 2147483648 := by
   rw [Int.natAbs_mul]; exact Nat.mul_le_mul (by omega) (by omega)
  omega
 rw [Ff, Ff, Gt h1.1 h1.2, Awj, Int32.ofInt_mul, Int32.ofInt_toInt, Int32.ofInt_toInt]
def OkF (s : Int) (t p : List Int32) : Prop := (s = 9 ∨ s = 10) ∧ t.length = 16 ∧ p.length = 16
theorem At4 {s : Int} {t p : List Int32} (h : OkF s t p) : Ad9 s t p = some 0 := by
 obtain ⟨rfl | rfl, _, _⟩ := h <;> rfl
theorem g32 {l : List Int32} {k : Nat} (h : k < l.length) : getI l (k : Int) = some (l.getD k 0) := by
 rw [Cq h]; simp [List.getD_eq_getElem?_getD, h]
def Ao7 (t p : List Int32) : Nat → Int32
 | 0 => 0
 | i + 1 => Ao7 t p i + t.getD i 0 * p.getD i 0
def half (s : Int) : Int32 := if s = 9 then 256 else 512
def gF (s : Int) (t p : List Int32) : Int32 := Int32.ofInt ((half s + Ao7 t p 16).toInt.fdiv (if s = 9 then 512 else 1024))
theorem Bbx {s : Int} {t p : List Int32} (h : OkF s t p) : ∀ (j i q : Nat), i + j = 16 → j < q → Tu t s p q (half s + Ao7 t p i) (i : Int) = some (gF s t p, 0)
 | 0, i, q + 1, hi, _ => by
  obtain rfl : i = 16 := by omega
  have hs := h.1
  rw [Tu, Aer, if_neg (by rw [Af]; simp), Akm, Ard, Bu (by rw [Dz]; simp; omega), Aa]
  obtain rfl | rfl := hs <;> rfl
 | j + 1, i, q + 1, hi, hq => by
  obtain ⟨hs, ht, hp⟩ := h
  rw [Tu, Aer, if_pos (by rw [Af]; simp; omega), g32 (by omega), Aa, g32 (by omega), Aa, Aa, Ag (b := 1) (by omega) (by omega), Ak9, Axu, Int32.add_assoc]
  exact Bbx ⟨hs, ht, hp⟩ j (i + 1) q (by omega) (by omega)
theorem Bom {s : Int} {t p : List Int32} (h : OkF s t p) : Amk s t p = some (gF s t p, 0) := by
 have hs := h.1
 have h1 := Bbx h 16 0 Ba (by omega) (by have := Ap; omega)
 have e : Eo (1 : Int32) (GI.toZ (Am s (1 : Int))).toNat = half s + Ao7 t p 0 := by
  obtain rfl | rfl := hs <;> rfl
 rw [Amk, Aki, At4 h, Aa, if_neg (by rw [Ah]; simp), Bu (by rw [Dz, Bk (by omega) (by omega)]; simp; omega), Aa, Akf, e]
 exact h1
theorem Ayw {s : Int} {t p : List Int32} (ht : t.length = 16) (hp : p.length = 16) {g : Int32} (hg : Ao7 t p 16 = g) : ∀ (j i q : Nat), i + j = 16 → j < q → Hv s t p q (Ao7 t p i).toInt (i : Int) = some g
 | 0, i, q + 1, hi, _ => by
  obtain rfl : i = 16 := by omega
  rw [Hv, Pz, if_neg (by rw [Af]; simp), Yo, Ags, Ahl, Int32.ofInt_toInt, hg]
 | j + 1, i, q + 1, hi, hq => by
  have ih := Ayw (s := s) ht hp hg j (i + 1) q (by omega) (by omega)
  rw [Ao7] at ih
  rw [Hv, Pz, if_pos (by rw [Af]; simp; omega), g32 (by omega), g32 (by omega), Aa, Aa, Aa, Aa, Bpf, Aa, ← Ff (Ao7 t p i), Asd, Aa, Ff, Ag (by omega) (by omega)]
  exact ih
theorem Boq {s : Int} {t p : List Int32} (h : OkF s t p) : Aem s t p = some (Ao7 t p 16) :=
 Ayw h.2.1 h.2.2 rfl 16 0 Ba (by omega) (by have := Ap; omega)
theorem Bmc (x n : Int) (hn : n = 512 ∨ n = 1024 ∨ n = 16 ∨ n = 32) : (if x.tmod n < 0 then x.tdiv n - 1 else x.tdiv n) = x.fdiv n := by
 have hs : n.sign = 1 := by obtain rfl | rfl | rfl | rfl := hn <;> rfl
 rw [Int.tdiv_eq_ediv, Int.tmod_eq_emod, hs, Int.fdiv_eq_ediv_of_nonneg _ (by omega)]
 by_cases h : 0 ≤ x ∨ n ∣ x
 ·rw [if_pos h, if_pos h]
  obtain rfl | rfl | rfl | rfl := hn <;> (rw [if_neg (by omega)]; omega)
 ·rw [if_neg h, if_neg h]
  obtain rfl | rfl | rfl | rfl := hn <;> (rw [if_pos (by omega)]; omega)
theorem Az4 (x n : Int) (hn : n = 512 ∨ n = 1024 ∨ n = 16 ∨ n = 32) (h : -1000000000000 ≤ x) (h' : x ≤ 1000000000000) : -1000000000000 ≤ x.tdiv n ∧ x.tdiv n ≤ 1000000000000 := by
 have hs : n.sign = 1 := by obtain rfl | rfl | rfl | rfl := hn <;> rfl
 rw [Int.tdiv_eq_ediv, hs]
 by_cases h : 0 ≤ x ∨ n ∣ x
 ·rw [if_pos h]; obtain rfl | rfl | rfl | rfl := hn <;> omega
 ·rw [if_neg h]; obtain rfl | rfl | rfl | rfl := hn <;> omega
theorem Bvh (x n : Int) (hn : n = 512 ∨ n = 1024 ∨ n = 16 ∨ n = 32) (h : -1000000000000 ≤ x) (h' : x ≤ 1000000000000) : Bs x n = x.tdiv n := by
 have := Az4 x n hn h h'
 rw [Af8, Cf (by omega) (by omega)]
theorem Be3 (x n : Int) (hn : n = 512 ∨ n = 1024 ∨ n = 16 ∨ n = 32) (h : -1000000000000 ≤ x) (h' : x ≤ 1000000000000) :
  (if (Dh (Jd x n) (0 : Int)) = true then some (Ad (Am (Bs x n) (1 : Int)) : Int32) else some (Ad (Bs x n) : Int32)) = some (Int32.ofInt (x.fdiv n)) := by
 have hb := Az4 x n hn h h'
 rw [Af, Jd, Bvh x n hn h h', Bk (by omega) (by omega), Ahl, Ahl, ← Bmc x n hn]
 by_cases hx : x.tmod n < 0
 ·rw [if_pos (by simpa using hx), if_pos hx]
 ·rw [if_neg (by simpa using hx), if_neg hx]
theorem Bq9 {s : Int} {t p : List Int32} (h : OkF s t p) : Vg s t p = some (gF s t p) := by
 obtain ⟨hs, ht, hp⟩ := h
 have h : OkF s t p := ⟨hs, ht, hp⟩
 have hx := Ac6 (Ao7 t p 16 + half s)
 have key : ∀ n : Int, (n = 512 ∨ n = 1024) → (half s).toInt = n / 2 → gF s t p = Int32.ofInt ((half s + Ao7 t p 16).toInt.fdiv n) → Nu s t p n = some (gF s t p) := by
  intro n hn hh hg
  have e2 : Bs n (2 : Int) = (half s).toInt := by rw [hh]; obtain rfl | rfl := hn <;> rfl
  rw [Nu, Ae7, Boq h, Aa, e2, ← Ff (half s), Asd, Aa, Bu (by rw [Ah]; simp; omega), Aa, Aa, Ff, Be3 _ n (by omega) (by omega) (by omega), hg, Int32.add_comm]
 rw [Vg, Wi]
 obtain rfl | rfl := hs
 ·rw [if_pos (by rw [Bg]; rfl)]; exact key 512 (.inl rfl) rfl rfl
 ·rw [if_neg (by rw [Bg]; decide)]; exact key 1024 (.inr rfl) rfl rfl
def stp (i : Nat) : Int32 := if i = 0 then 4 else if i < 4 then 2 else 1
def sg (x : Int32) : Int32 := if x.toInt < 0 then -1 else if 0 < x.toInt then 1 else 0
def lrn (t p : List Int32) (w : Int32) : List Int32 := (List.range 16).map fun i => t.getD i 0 + stp i * sg (p.getD i 0) * sg w
theorem Ae1 (t p : List Int32) (w : Int32) : (lrn t p w).length = 16 := by simp [lrn]
theorem Bdi (t p : List Int32) (w : Int32) {i : Nat} (h : i < 16) : (lrn t p w).getD i 0 = t.getD i 0 + stp i * sg (p.getD i 0) * sg w := by
 rw [Mr (by rw [Ae1]; exact h)]; simp [lrn]
theorem step_eq (i : Nat) : Aln (i : Int) = some (stp i) := by
 rw [Aln, stp]
 by_cases h : i = 0
 ·rw [if_pos (by rw [Bg]; simp [h]), if_pos h]
 ·rw [if_neg (by rw [Bg]; simp; omega), if_neg h]
  by_cases h2 : i < 4
  ·rw [if_pos (by rw [Af]; simp; omega), if_pos h2]
  ·rw [if_neg (by rw [Af]; simp; omega), if_neg h2]
theorem Blg (i : Nat) : Vn (i : Int) = some (stp i) := by
 rw [Vn, stp]
 by_cases h : i = 0
 ·rw [if_pos (by rw [Bg]; simp [h]), if_pos h]
 ·rw [if_neg (by rw [Bg]; simp; omega), if_neg h]
  by_cases h2 : i < 4
  ·rw [if_pos (by rw [Bbp]; simp; omega), if_pos h2]
  ·rw [if_neg (by rw [Bbp]; simp; omega), if_neg h2]
theorem Bdv (a b : Int32) : Dh a b = decide (a.toInt < b.toInt) := rfl
theorem Bjg (a b : Int32) : Hh a b = decide (b.toInt < a.toInt) := rfl
theorem sign_eq (x : Int32) : Ny x = some (sg x) := by
 rw [Ny, sg, Bdv, Bjg, show (0 : Int32).toInt = 0 from rfl]
 by_cases h : x.toInt < 0
 ·rw [if_pos (by simpa using h), if_pos h]
 ·rw [if_neg (by simpa using h), if_neg h]
  by_cases h2 : 0 < x.toInt
  ·rw [if_pos (by simpa using h2), if_pos h2]
  ·rw [if_neg (by simpa using h2), if_neg h2]
theorem Bjj : sg 0 = 0 := rfl
theorem toInt_ne {x : Int32} (h : x ≠ 0) : x.toInt ≠ 0 := fun e => h (Int32.toInt_inj.1 (by rw [e]; rfl))
theorem Bcl {x : Int32} (h : x.toInt < 0) : sg x = -1 := by rw [sg, if_pos h]
theorem Bdn {x : Int32} (h : x ≠ 0) (h2 : ¬ x.toInt < 0) : sg x = 1 := by
 have := toInt_ne h
 rw [sg, if_neg h2, if_pos (by omega)]
theorem Aqc (i : Nat) : stp i = 4 ∨ stp i = 2 ∨ stp i = 1 := by
 unfold stp
 by_cases h : i = 0
 ·rw [if_pos h]; exact .inl rfl
 ·rw [if_neg h]; split; exact .inr (.inl rfl); exact .inr (.inr rfl)
theorem Bmq {x w : Int32} (hx : x ≠ 0) (hw : w ≠ 0) (h : (x.toInt < 0) = (w.toInt < 0)) (i : Nat) : stp i * sg x * sg w = stp i := by
 by_cases h1 : x.toInt < 0
 ·rw [Bcl h1, Bcl (by rw [← h]; exact h1)]
  obtain e | e | e := Aqc i <;> rw [e] <;> decide
 ·rw [Bdn hx h1, Bdn hw (by rw [← h]; exact h1)]
  obtain e | e | e := Aqc i <;> rw [e] <;> decide
theorem Bh6 {x w : Int32} (hx : x ≠ 0) (hw : w ≠ 0) (h : ¬ (x.toInt < 0) = (w.toInt < 0)) (i : Nat) (a : Int32) : a + stp i * sg x * sg w = a - stp i := by
 have key : stp i * sg x * sg w = - stp i := by
  by_cases h1 : x.toInt < 0
  ·have h2 : ¬ w.toInt < 0 := fun h2 => h (propext ⟨fun _ => h2, fun _ => h1⟩)
   rw [Bcl h1, Bdn hw h2]
   obtain e | e | e := Aqc i <;> rw [e] <;> decide
  ·have h2 : w.toInt < 0 := Decidable.by_contra fun h2 => h (propext ⟨fun h3 => absurd h3 h1, fun h3 => absurd h3 h2⟩)
   rw [Bdn hx h1, Bcl h2]
   obtain e | e | e := Aqc i <;> rw [e] <;> decide
 rw [key, Int32.sub_eq_add_neg]
def Ast (i : Nat) : Nat → Bool := fun j => decide (j < i)
theorem Aza {a b : List Int32} {i : Nat} (h : i < a.length) : Qh (sel (Ast i) a b) (i : Int) (a.getD i 0) = some (sel (Ast (i + 1)) a b) := by
 rw [Atl h]
 congr 1
 apply Aar
 intro k _
 rw [Bool.eq_iff_iff]
 simp only [Ast, Bool.or_eq_true, decide_eq_true_eq]; omega
theorem Bmd {a b : List Int32} {i : Nat} (e : a.getD i 0 = b.getD i 0) : sel (Ast i) a b = sel (Ast (i + 1)) a b := by
 apply List.map_congr_left
 intro k _
 simp only [Ast, decide_eq_true_eq]
 by_cases h1 : k < i
 ·rw [if_pos h1, if_pos (by omega)]
 ·by_cases h2 : k = i
  ·subst h2; rw [if_neg h1, if_pos (by omega), e]
  ·rw [if_neg h1, if_neg (by omega)]
theorem Bey {a b : List Int32} {i : Nat} (h : i < a.length) : getI (sel (Ast i) a b) (i : Int) = some (b.getD i 0) := by
 rw [Ajj h, if_neg (by simp [Ast])]
theorem Bb9 {s : Int} {t p : List Int32} {w : Int32} (hw : w ≠ 0) (ht : t.length = 16) (hp : p.length = 16) : ∀ (j i q : Nat), i + j = 16 → j < q → Tx w p s q (i : Int) (sel (Ast i) (lrn t p w) t) = some (s, lrn t p w, p, 0)
 | 0, i, q + 1, hi, _ => by
  obtain rfl : i = 16 := by omega
  rw [Tx, Aes, if_neg (by rw [Af]; simp), Atj (fun k hk => by rw [Ae1] at hk; simpa [Ast] using hk)]; rfl
 | j + 1, i, q + 1, hi, hq => by
  have hl := Ae1 t p w
  have hg := Bdi t p w (i := i) (by omega)
  rw [Tx, Aes, if_pos (by rw [Af]; simp; omega), g32 (by omega), Aa, Ag (b := 1) (by omega) (by omega), Bey (by omega), step_eq]
  simp only [Aa]
  rw [Ak9, Ay9, Bkv, Bdv, Bdv, show (0 : Int32).toInt = 0 from rfl]
  have ih := Bb9 (s := s) hw ht hp j (i + 1) q (by omega) (by omega)
  by_cases hx : p.getD i 0 = 0
  ·rw [if_pos (by rw [hx]; rfl), Bmd (by rw [hg, hx, Bjj, Int32.mul_zero, Int32.zero_mul, Int32.add_zero])]
   exact ih
  ·rw [if_neg (by simpa using hx)]
   by_cases hs : ((p.getD i 0).toInt < 0) = (w.toInt < 0)
   ·rw [if_pos (by rw [beq_iff_eq]; simp only [hs]), show t.getD i 0 + stp i = (lrn t p w).getD i 0 by rw [hg, Bmq hx hw hs], Aza (by omega), Aa]
    exact ih
   ·rw [if_neg (by rw [beq_iff_eq, decide_eq_decide]; exact fun h => hs (propext h)), show t.getD i 0 - stp i = (lrn t p w).getD i 0 by rw [hg, Bh6 hx hw hs], Aza (by omega), Aa]
    exact ih
theorem Bob {t : List Int32} (p : List Int32) (ht : t.length = 16) : lrn t p 0 = t := by
 apply List.ext_getElem (by rw [Ae1, ht])
 intro i h1 h2
 have := Bdi t p 0 (i := i) (by omega)
 rw [Mr h1, Mr h2] at this
 rw [this, Bjj, Int32.mul_zero, Int32.add_zero]
theorem Boa {s : Int} {t p : List Int32} (h : OkF s t p) (w : Int32) : Amp s t p w = some (s, lrn t p w, p, 0) := by
 rw [Amp, Akn, At4 h, Aa, if_neg (by rw [Ah]; simp), Bkv]
 by_cases hw : w = 0
 ·rw [if_pos (by simpa using hw), hw, Bob p h.2.1]
 ·have h1 := Bb9 (s := s) hw h.2.1 h.2.2 16 0 Ba (by omega) (by have := Ap; omega)
  rw [Ata (by rw [Ae1, h.2.1]) (fun k _ => by simp [Ast])] at h1
  rw [if_neg (by simpa using hw)]
  exact h1
theorem As6 {s : Int} {t p : List Int32} {w : Int32} (ht : t.length = 16) (hp : p.length = 16) : ∀ (j i q : Nat), i + j = 16 → j < q → Fa w s p q (i : Int) (sel (Ast i) (lrn t p w) t) = some (s, lrn t p w, p)
 | 0, i, q + 1, hi, _ => by
  obtain rfl : i = 16 := by omega
  rw [Fa, Jt, if_neg (by rw [Af]; simp), Atj (fun k hk => by rw [Ae1] at hk; simpa [Ast] using hk)]; rfl
 | j + 1, i, q + 1, hi, hq => by
  have hl := Ae1 t p w
  have hg := Bdi t p w (i := i) (by omega)
  rw [Fa, Jt, if_pos (by rw [Af]; simp; omega), g32 (l := p) (by omega), Ag (b := 1) (by omega) (by omega), Bey (by omega), Blg, sign_eq w, Aa, Aa, Aa, Aa, Aa, sign_eq, Aa, Aa, Aa, Ak9, Axu, Axu, ← hg, Aza (by omega), Aa]
  exact As6 ht hp j (i + 1) q (by omega) (by omega)
theorem Biy {s : Int} {t p : List Int32} (h : OkF s t p) (w : Int32) : Xe s t p w = some (s, lrn t p w, p) := by
 have h1 := As6 (s := s) (w := w) h.2.1 h.2.2 16 0 Ba (by omega) (by have := Ap; omega)
 rw [Ata (by rw [Ae1, h.2.1]) (fun k _ => by simp [Ast])] at h1
 exact h1
theorem Bqt {p : List Int32} (h : p.length = 16) : ∃ a0 a1 a2 a3 a4 a5 a6 a7 a8 a9 b0 b1 b2 b3 b4 b5, p = [a0, a1, a2, a3, a4, a5, a6, a7, a8, a9, b0, b1, b2, b3, b4, b5] := by
 match p, h with
 | [a0, a1, a2, a3, a4, a5, a6, a7, a8, a9, b0, b1, b2, b3, b4, b5], _ => exact ⟨a0, a1, a2, a3, a4, a5, a6, a7, a8, a9, b0, b1, b2, b3, b4, b5, rfl⟩
theorem Bs3 {s : Int} {t p : List Int32} (h : OkF s t p) (x : Int32) : Aqm s t p x = some (s, t, x :: p.take 15, 0) := by
 obtain ⟨hs, ht, hp⟩ := h
 rw [Aqm, Ahh, At4 ⟨hs, ht, hp⟩, Aa, if_neg (by rw [Ah]; simp), show vwI (16 : Int) 1 16 = some () from rfl, Aa, show vwI (16 : Int) 0 16 = some () from rfl, Aa, Ann, Asw]
 obtain ⟨a0, a1, a2, a3, a4, a5, a6, a7, a8, a9, b0, b1, b2, b3, b4, b5, rfl⟩ := Bqt hp
 rfl
def shf (p : List Int32) (i : Nat) : List Int32 := (List.range 16).map fun k => if k ≤ i then p.getD k 0 else p.getD (k - 1) 0
theorem Zq (p : List Int32) (i : Nat) : (shf p i).length = 16 := by simp [shf]
theorem Brn (p : List Int32) (i k : Nat) (h : k < 16) : (shf p i).getD k 0 = if k ≤ i then p.getD k 0 else p.getD (k - 1) 0 := by
 rw [Mr (by rw [Zq]; exact h)]; simp [shf]
theorem Brj (p : List Int32) (i : Nat) (h : i + 1 < 16) : Qh (shf p (i + 1)) ((i + 1 : Nat) : Int) (p.getD i 0) = some (shf p i) := by
 rw [We _ (by rw [Zq]; exact h)]
 congr 1
 apply List.ext_getElem (by simp [Zq])
 intro k h1 h2
 rw [Zq] at h2
 rw [List.getElem_set]
 simp only [shf, List.getElem_map, List.getElem_range]
 by_cases hk : i + 1 = k
 ·subst hk; rw [if_pos rfl, if_neg (by omega)]; rfl
 ·rw [if_neg hk]
  by_cases h3 : k ≤ i
  ·rw [if_pos (by omega), if_pos h3]
  ·rw [if_neg (by omega), if_neg h3]
theorem Avv (s : Int) (t p : List Int32) (x : Int32) (hp : p.length = 16) : ∀ (i q : Nat), i < 16 → i < q → Fm x s t q (i : Int) (shf p i) = some (s, t, x :: p.take 15)
 | 0, q + 1, _, _ => by
  have hg : getI (shf p 0) (0 : Int) = some ((shf p 0).getD 0 0) := g32 (l := shf p 0) (k := 0) (by rw [Zq]; omega)
  have hset : Qh (shf p 0) (0 : Int) x = some ((shf p 0).set 0 x) := We (l := shf p 0) (n := 0) x (by rw [Zq]; omega)
  rw [Fm, Kw, if_neg (by rw [Au]; simp), Tb, Acl, hg, Aa, hset, Aa]
  congr 3
  apply List.ext_getElem (by simp [Zq, hp])
  intro k h1 h2
  rw [List.length_set, Zq] at h1
  rw [List.getElem_set]
  cases k with
  | zero => rw [if_pos rfl]; rfl
  | succ k =>
   rw [if_neg (by omega)]
   simp only [shf, List.getElem_map, List.getElem_range, List.getElem_cons_succ, List.getElem_take]
   rw [if_neg (by omega), Nat.add_sub_cancel, Mr (by omega)]
 | i + 1, q + 1, hi, hq => by
  have hg := g32 (l := shf p (i + 1)) (k := i) (by rw [Zq]; omega)
  rw [Brn p (i + 1) i (by omega), if_pos (by omega)] at hg
  have e1 : Am ((i + 1 : Nat) : Int) (1 : Int) = (i : Int) := by rw [Bk (by omega) (by omega)]; omega
  have hg2 := g32 (l := shf p (i + 1)) (k := i + 1) (by rw [Zq]; omega)
  rw [Fm, Kw, if_pos (by rw [Au]; simp), e1, hg, Aa, Aa, hg2, Aa, Brj p i hi, Aa]
  exact Avv s t p x hp i q (by omega) (by omega)
theorem Bll {s : Int} {t p : List Int32} (hp : p.length = 16) (x : Int32) : Yk s t p x = some (s, t, x :: p.take 15) := by
 have h := Avv s t p x hp 15 Ba (by omega) (by have := Ap; omega)
 have e : shf p 15 = p := by
  apply List.ext_getElem (by rw [Zq, hp])
  intro k h1 h2
  rw [Zq] at h1
  simp only [shf, List.getElem_map, List.getElem_range]
  rw [if_pos (by omega), Mr h2]
 rw [e] at h
 exact h
theorem Bpa {s : Int} {t p : List Int32} (h : OkF s t p) (w x : Int32) : OkF s (lrn t p w) (x :: p.take 15) := ⟨h.1, Ae1 _ _ _, by simp [h.2.2]⟩
theorem Brs {s : Int} {t p : List Int32} (h : OkF s t p) (y : Int32) : Apf s t p y = some (y + gF s t p, s, lrn t p y, (y + gF s t p) :: p.take 15, 0) := by
 rw [Apf, Bom h, Aa]
 simp only
 rw [if_neg (by rw [Ah]; simp), Ak9, Aro, Boa h, Aa]
 simp only
 rw [Bs3 (s := s) (t := lrn t p y) (p := p) ⟨h.1, Ae1 _ _ _, h.2.2⟩, Aa]; rfl
theorem Bmy {s : Int} {t p : List Int32} (h : OkF s t p) (y : Int32) : Of s t p y = some (y + gF s t p, s, lrn t p y, (y + gF s t p) :: p.take 15) := by
 rw [Of, Bq9 h, Aa, Asd, Aa, Biy h, Aa]
 simp only
 rw [Bll h.2.2, Aa]
def sB (bits : Int) : Int := if bits = 16 then 9 else 10
def shB (bits : Int) : Int := if bits = 8 then 4 else 5
def Dn (bits : Int) : Prop := bits = 8 ∨ bits = 16 ∨ bits = 24
def gs (sh : Int) (last : Int32) : Int32 := Ad (Bco (Am (Eo (Ad last : Int) sh.toNat) (Ad last)) sh.toNat)
theorem Bvq (bits : Int) : sB bits = 9 ∨ sB bits = 10 := by unfold sB; split <;> simp
theorem Br8 (bits : Int) : 0 ≤ shB bits := by unfold shB; split <;> omega
theorem Bwu {bits : Int} (h : Dn bits) (t : List Int32) : Ath bits t = some (sB bits, t, List.replicate 16 0, 0) := by
 obtain rfl | rfl | rfl := h <;> rfl
theorem Bty {bits : Int} (h : Dn bits) : Apd bits = some (shB bits, 0) := by
 obtain rfl | rfl | rfl := h <;> rfl
theorem Bu1 {sh : Int} (h : 0 ≤ sh) (last : Int32) : Ajv sh last = some (gs sh last) := by
 rw [Ajv, Bu (by rw [Dz]; simpa using h), Aa, Aa]; rfl
theorem Bup {bits : Int} (h : Dn bits) (last : Int32) : Afb bits last = some (gs (shB bits) last, 0) := by
 rw [Afb, Bty h, Aa]
 simp only
 rw [if_neg (by rw [Ah]; simp), Bu1 (Br8 bits), Aa]
theorem Biu {bits : Int} (h : Dn bits) (last : Int32) (t p : List Int32) : Afr bits last (sB bits) t p = some 0 := by
 rw [Afr, Bwu h, Aa]
 simp only
 rw [if_neg (by rw [Ah, Ah]; simp)]
theorem Bmf {bits : Int} (h : Dn bits) {t p : List Int32} (hF : OkF (sB bits) t p) (last y : Int32) :
  Kc bits last (sB bits) t p y = some (y + gF (sB bits) t p + gs (shB bits) last, bits, y + gF (sB bits) t p + gs (shB bits) last, sB bits, lrn t p y, (y + gF (sB bits) t p) :: p.take 15, 0) := by
 rw [Kc, Biu h, Aa, if_neg (by rw [Ah]; simp), Bup h, Aa]
 simp only
 rw [Brs hF, Aa]
 simp only
 rw [Ak9]
theorem At2 (sh : Int) (hs : sh = 4 ∨ sh = 5) (last : Int32) : Kn sh last = some (gs sh last) := by
 have hl := Ac6 last
 have key : ∀ n : Int, n = 16 ∨ n = 32 → gs sh last = Int32.ofInt (((n - 1) * last.toInt).fdiv n) → Lb last n = some (gs sh last) := by
  intro n hn hg
  have e : Bj (Am n (1 : Int)) (Ad last : Int) = (n - 1) * last.toInt := by
   obtain rfl | rfl := hn <;> (rw [Ff, Bk (by omega) (by omega), Gt (by omega) (by omega)])
  rw [Lb, Ac0, Bu (by rw [Ah]; simp; omega), Aa, Aa, e, Be3 _ n (by omega) (by obtain rfl | rfl := hn <;> omega) (by obtain rfl | rfl := hn <;> omega), hg]
 rw [Kn, Sk]
 obtain rfl | rfl := hs
 ·rw [if_neg (by rw [Bg]; decide)]
  refine key 16 (.inl rfl) ?_
  have e : Eo (Ad last : Int) (4 : Int).toNat = last.toInt * 16 := by
   rw [Ff]; show wrap64 (last.toInt * 2 ^ 4) = _; rw [Cf] <;> omega
  rw [gs, e, Ff, Bk (by omega) (by omega), Ahl]
  show Int32.ofInt ((last.toInt * 16 - last.toInt).fdiv 16) = _
  congr 2; omega
 ·rw [if_pos (by rw [Bg]; rfl)]
  refine key 32 (.inr rfl) ?_
  have e : Eo (Ad last : Int) (5 : Int).toNat = last.toInt * 32 := by
   rw [Ff]; show wrap64 (last.toInt * 2 ^ 5) = _; rw [Cf] <;> omega
  rw [gs, e, Ff, Bk (by omega) (by omega), Ahl]
  show Int32.ofInt ((last.toInt * 32 - last.toInt).fdiv 32) = _
  congr 2; omega
theorem Bmz {bits : Int} (h : Dn bits) {t p : List Int32} (hF : OkF (sB bits) t p) (last y : Int32) :
  He bits last (sB bits) t p y = some (y + gF (sB bits) t p + gs (shB bits) last, bits, y + gF (sB bits) t p + gs (shB bits) last, sB bits, lrn t p y, (y + gF (sB bits) t p) :: p.take 15) := by
 have hb : Qb bits last (sB bits) t p = some (Ad (gs (shB bits) last) : Int) := by
  rw [Qb]
  obtain rfl | rfl | rfl := h
  ·rw [if_pos (by rw [Bg]; rfl), At2 4 (.inl rfl), Aa]; rfl
  ·rw [if_neg (by rw [Bg]; decide), At2 5 (.inr rfl), Aa]; rfl
  ·rw [if_neg (by rw [Bg]; decide), At2 5 (.inr rfl), Aa]; rfl
 rw [He, Bmy hF, Aa]
 simp only
 rw [hb, Aa, Asd, Aa]
theorem Bv2 {bits : Int} (h : Dn bits) (t : List Int32) : Ad5 bits t = some (bits, 0, sB bits, t, List.replicate 16 0, 0) := by
 obtain rfl | rfl | rfl := h <;> rfl
def Anx (n : UInt32) : Int32 := if n.toNat % 2 = 0 then Int32.ofInt ((n.toNat / 2 : Nat) : Int) else Int32.ofInt (-((n.toNat / 2 : Nat) : Int) - 1)
theorem Bgl (a b : Int32) : (Zf a b).toBitVec = a.toBitVec ^^^ b.toBitVec := by
 show (Int32.ofInt ((BitVec.ofInt 32 a.toBitVec.toInt ^^^ BitVec.ofInt 32 b.toBitVec.toInt).toNat : Int)).toBitVec = _
 rw [BitVec.ofInt_toInt, BitVec.ofInt_toInt, Int32.toBitVec_ofInt, BitVec.ofInt_natCast, BitVec.ofNat_toNat, BitVec.setWidth_eq]
theorem Bv9 (m : Nat) (h : m < 2147483648) : Zf (Int32.ofInt (m : Int)) (Int32.ofInt (-1)) = Int32.ofInt (-(m : Int) - 1) := by
 apply Int32.toBitVec_inj.1
 have e1 : (Int32.ofInt (-1)).toBitVec = BitVec.allOnes 32 := by decide
 rw [Bgl, e1, BitVec.xor_allOnes, Int32.toBitVec_ofInt, Int32.toBitVec_ofInt]
 apply BitVec.eq_of_toNat_eq
 rw [BitVec.toNat_not, BitVec.toNat_ofInt, BitVec.toNat_ofInt]
 omega
theorem Bn6 (n : UInt32) : Xr n = some (Anx n) := by
 have hn := n.toNat_lt
 have e1 : (Ad (Db n (GI.toZ (1 : UInt64)).toNat) : Int32) = Int32.ofInt ((n.toNat / 2 : Nat) : Int) := by
  show Int32.ofInt ((Db n 1).toNat : Int) = _
  rw [Alz]
 have e2 : (Ad (Iu n (1 : UInt32)) : Int32) = Int32.ofInt ((n.toNat % 2 : Nat) : Int) := by
  show Int32.ofInt ((Iu n (1 : UInt32)).toNat : Int) = _
  rw [Bgq, UInt32.toNat_and]
  show Int32.ofInt ((n.toNat &&& 1 : Nat) : Int) = _
  rw [Nat.and_one_is_mod]
 rw [Xr, e1, e2, Anx]
 congr 1
 by_cases h : n.toNat % 2 = 0
 ·have e3 : Asu (Int32.ofInt ((n.toNat % 2 : Nat) : Int)) = Int32.ofInt 0 := by rw [h]; decide
  rw [if_pos h, e3]
  apply Int32.toBitVec_inj.1
  rw [Bgl, show (Int32.ofInt 0).toBitVec = 0#32 from rfl, BitVec.xor_zero]
 ·have e3 : Asu (Int32.ofInt ((n.toNat % 2 : Nat) : Int)) = Int32.ofInt (-1) := by rw [show n.toNat % 2 = 1 by omega]; decide
  rw [if_neg h, e3, Bv9 _ (by omega)]
theorem Bso (n : UInt32) : Jy n = some (Anx n) := by
 have hn := n.toNat_lt
 have e1 : geq (Abb n (2 : UInt32)) (0 : UInt32) = decide (n.toNat % 2 = 0) := by
  rw [Bdz, Bf6, Bool.eq_iff_iff]
  simp only [beq_iff_eq, ← UInt32.toNat_inj, UInt32.toNat_mod, decide_eq_true_eq]; rfl
 rw [Jy, e1, Anx]
 by_cases h : n.toNat % 2 = 0
 ·rw [if_pos (by simpa using h), if_pos h, Bfi]; rfl
 ·have e2 : (Ad n : Int) = (n.toNat : Int) := Bik n
  rw [if_neg (by simpa using h), if_neg h, e2, Ag (by omega) (by omega), Bh8, Cf (by omega) (by omega), Af8, Int.tdiv_eq_ediv, Ahl]
  congr 2
  rw [if_pos (.inr (by omega)), Cf (by omega) (by omega)]; omega
end Go.Pl
set_option linter.unusedVariables false
set_option linter.unusedSimpArgs false
namespace Go.Pl
open Go Go.Lv
theorem Bhb {c : Prop} [Decidable c] (h : c) : Qx (decide c) = some () := by rw [decide_eq_true h]; rfl
def unV (f : Nat → Int32) (ch : Nat) : Nat → Int32
 | 0 => if 1 < ch then f (ch - 1) + Bs (f (ch - 2)) (2 : Int32) else f (ch - 1)
 | j + 1 => unV f ch j - f (ch - 2 - j)
def unm (ch : Nat) (m : List Int32) : List Int32 := (List.range m.length).map fun k => unV (fun i => m.getD (k - k % ch + i) 0) ch (ch - 1 - k % ch)
theorem Aqi (ch : Nat) (m : List Int32) : (unm ch m).length = m.length := by simp [unm]
theorem Awd {ch : Nat} {m : List Int32} {a i : Nat} (ha : a % ch = 0) (hi : i < ch) (h : a + i < m.length) : (unm ch m).getD (a + i) 0 = unV (fun i => m.getD (a + i) 0) ch (ch - 1 - i) := by
 have hb : (a + i) % ch = i := by rw [Nat.add_mod, ha, Nat.zero_add, Nat.mod_mod, Nat.mod_eq_of_lt hi]
 rw [Mr (by rw [Aqi]; exact h)]
 simp only [unm, List.getElem_map, List.getElem_range, hb]
 rw [show a + i - i = a by omega]
section
variable (ch : Nat) (m : List Int32)
theorem Bou (h1 : 1 ≤ ch) (h6 : ch ≤ 6) (hm : m.length % ch = 0) (hl2 : m.length ≤ 4000) : Aqn (ch : Int) m = some 0 := by
 rw [Aqn, if_neg (by simp [Af, Au]; omega), if_neg (by rw [Au, Ac]; simp; omega), Bu (by rw [Ah]; simp; omega), Aa, if_neg]
 rw [Ah, Jd, Ac, ← Int.ofNat_tmod, hm]; simp
theorem Ay6 (bk : Int → List Int32 → Option (List Int32 × Int)) (at' : Nat) (h1 : 1 ≤ ch) (h6 : ch ≤ 6) (hm : at' % ch = 0) (hl : at' + ch ≤ m.length) (hl2 : m.length ≤ 4000) : ∀ (i q : Nat), i ≤ ch - 1 → i < q →
  Xm bk (ch : Int) (at' : Int) q ((i : Int) - 1) (sel (fun k => decide (k < at' ∨ (at' + i ≤ k ∧ k < at' + ch))) (unm ch m) m) = bk ((at' + ch : Nat) : Int) (sel (fun k => decide (k < at' + ch)) (unm ch m) m)
 | 0, q + 1, hi, _ => by
  have e4 : Ae (at' : Int) (ch : Int) = ((at' + ch : Nat) : Int) := by rw [Ag (by omega) (by omega)]; omega
  rw [Xm, Ahf, if_neg (by rw [Dz]; simp), Amw, Ase, e4]
  congr 1
  apply Aar
  intro k _
  rw [Bool.eq_iff_iff]; simp; omega
 | i + 1, q + 1, hi, hq => by
  have hlen := Aqi ch m
  have e2 : Ae (at' : Int) (ch : Int) - (at' : Int) = (ch : Int) := by rw [Ag (by omega) (by omega)]; omega
  have e3 : Ae (i : Int) 1 = ((i + 1 : Nat) : Int) := by rw [Ag (by omega) (by omega)]; omega
  have hv : ((unm ch m).getD (at' + (i + 1)) 0 - m.getD (at' + i) 0) = (unm ch m).getD (at' + i) 0 := by
   rw [Awd hm (by omega) (by omega), Awd hm (by omega) (by omega), show ch - 1 - i = (ch - 1 - (i + 1)) + 1 by omega, unV, show ch - 2 - (ch - 1 - (i + 1)) = i by omega]
  rw [Xm, Ahf, show ((i + 1 : Nat) : Int) - 1 = (i : Int) by omega, if_pos (by rw [Dz]; simp), e2, e3, Bhb (by omega), Aa, Bhb (by omega), Aa,
   show (at' : Int) + ((i + 1 : Nat) : Int) = ((at' + (i + 1) : Nat) : Int) by omega, show (at' : Int) + (i : Int) = ((at' + i : Nat) : Int) by omega,
   Ajj (by omega), Aa, Ajj (by omega), Aa, Aa, if_pos (by simp; omega), if_neg (by simp; omega), Ay9, hv, Atl (by omega), Aa, Bk (by omega) (by omega)]
  have ih := Ay6 bk at' h1 h6 hm hl hl2 i q (by omega) (by omega)
  rw [← ih]
  congr 1
  apply Aar
  intro k _
  rw [Bool.eq_iff_iff]; simp; omega
theorem Bg4 {at' ch n : Nat} (ha : at' % ch = 0) (hm : n % ch = 0) (h : at' < n) : at' + ch ≤ n := by
 have d1 := Nat.div_add_mod at' ch
 have d2 := Nat.div_add_mod n ch
 rw [ha, Nat.add_zero] at d1
 rw [hm, Nat.add_zero] at d2
 have hlt : at' / ch < n / ch := by
  rcases Nat.lt_or_ge (at' / ch) (n / ch) with h' | h'
  ·exact h'
  ·have := Nat.mul_le_mul_left ch h'; omega
 have := Nat.mul_le_mul_left ch (show at' / ch + 1 ≤ n / ch from hlt)
 rw [Nat.mul_add] at this; omega
theorem Bbt (h1 : 1 ≤ ch) (h6 : ch ≤ 6) (hm : m.length % ch = 0) (hl2 : m.length ≤ 4000) : ∀ (j at' q : Nat), at' % ch = 0 → at' ≤ m.length → m.length - at' ≤ j → j < q →
  Tl (ch : Int) q (at' : Int) (sel (fun k => decide (k < at')) (unm ch m) m) = some (unm ch m, 0)
 | j, at', q + 1, ha, hle, hj, hq => by
  have hlen := Aqi ch m
  have hl : Ac (sel (fun k => decide (k < at')) (unm ch m) m) = (m.length : Int) := by rw [Ac, Am1, hlen]
  rw [Tl, Ang, hl]
  by_cases h : at' < m.length
  ·have hb := Bg4 ha hm h
   obtain ⟨j, rfl⟩ : ∃ k, j = k + 1 := ⟨j - 1, by omega⟩
   have e1 : Am (Ae (at' : Int) (ch : Int) - (at' : Int)) 1 = ((ch - 1 : Nat) : Int) := by rw [Ag (by omega) (by omega), Bk (by omega) (by omega)]; omega
   have e2 : Ae (at' : Int) (ch : Int) - (at' : Int) = (ch : Int) := by rw [Ag (by omega) (by omega)]; omega
   have e4 : Ae (at' : Int) (ch : Int) = ((at' + ch : Nat) : Int) := by rw [Ag (by omega) (by omega)]; omega
   have hi := Ay6 ch m (Tl (ch : Int) q) at' h1 h6 ha hb hl2 (ch - 1) Ba (by omega) (by have := Ap; omega)
   have hrest := Bbt h1 h6 hm hl2 j (at' + ch) q (by rw [Nat.add_mod_right, ha]) hb (by omega) (by omega)
   have hstart : Ag5 (Tl (ch : Int) q) (ch : Int) (at' : Int) (sel (fun k => decide (k < at' ∨ (at' + (ch - 1) ≤ k ∧ k < at' + ch))) (unm ch m) m) = some (unm ch m, 0) := by
    have e6 : Am ((ch - 1 : Nat) : Int) 1 = ((ch - 1 : Nat) : Int) - 1 := Bk (by omega) (by omega)
    rw [Ag5, Am4, Anm, e1, e6]
    exact Eq.trans hi hrest
   rw [if_pos (by rw [Af]; simp; omega), show vwI (m.length : Int) (at' : Int) (Ae (at' : Int) (ch : Int)) = some () by rw [e4, vwI, Bhb]; omega, Aa, e1, e2]
   have hlast := Awd (m := m) ha (show ch - 1 < ch by omega) (by omega)
   rw [show ch - 1 - (ch - 1) = 0 by omega, unV] at hlast
   by_cases hc : 1 < ch
   ·have e5 : Am ((ch - 1 : Nat) : Int) 1 = ((ch - 2 : Nat) : Int) := by rw [Bk (by omega) (by omega)]; omega
    rw [if_pos hc] at hlast
    rw [if_pos (by rw [Au]; simp; omega), Bhb (by omega), Aa, e5, Bhb (by omega), Aa, show (at' : Int) + ((ch - 1 : Nat) : Int) = ((at' + (ch - 1) : Nat) : Int) by omega, show (at' : Int) + ((ch - 2 : Nat) : Int) = ((at' + (ch - 2) : Nat) : Int) by omega,
     Ajj (by omega), Aa, Ajj (by omega), Aa, Aa, if_neg (by simp), if_neg (by simp), Ak9, ← hlast, Atl (by omega), Aa]
    rw [← hstart]
    congr 1
    apply Aar
    intro k _
    rw [Bool.eq_iff_iff]; simp; omega
   ·have hc1 : ch = 1 := by omega
    rw [if_neg (by rw [Au]; simp; omega), ← hstart]
    congr 1
    rw [if_neg hc] at hlast
    apply List.map_congr_left
    intro k hk
    by_cases hk2 : k = at'
    ·subst hk2
     rw [if_neg (by simp), if_pos (by simp; omega)]
     rw [show k + (ch - 1) = k by omega] at hlast
     exact hlast.symm
    ·by_cases hk3 : k < at'
     ·rw [if_pos (by simp; omega), if_pos (by simp; omega)]
     ·rw [if_neg (by simp; omega), if_neg (by simp; omega)]
  ·rw [if_neg (by rw [Af]; simp; omega), Atj (fun k hk => by simp; omega)]
   rfl
theorem Bsl (h1 : 1 ≤ ch) (h6 : ch ≤ 6) (hm : m.length % ch = 0) (hl2 : m.length ≤ 4000) : Ato (ch : Int) m = some (unm ch m, 0) := by
 have hlen := Aqi ch m
 have h := Bbt ch m h1 h6 hm hl2 m.length 0 Ba (by simp) (by omega) (by omega) (by have := Ap; omega)
 rw [Ato, Aph, Bou ch m h1 h6 hm hl2, Aa, if_neg (by rw [Ah]; simp), Gm, Dc (by simp; omega), Aa, Aa, List.nil_append, Ama]
 rw [Ata hlen.symm (fun k _ => by simp)] at h
 exact h
end
def Aup (f : Nat → Int32) (ch : Nat) : List Int32 := (List.range ch).map fun i => unV f ch (ch - 1 - i)
theorem Alv (f : Nat → Int32) (ch : Nat) : (Aup f ch).length = ch := by simp [Aup]
theorem Ats (f : Nat → Int32) {ch i : Nat} (h : i < ch) : (Aup f ch).getD i 0 = unV f ch (ch - 1 - i) := by
 rw [Mr (by rw [Alv]; exact h)]; simp [Aup]
theorem Boy (a b : Int32) : By (Am (Ad a : Int) (Ad b : Int)) = some (a - b) := by
 have := Ac6 a
 have := Ac6 b
 rw [Ff, Ff, Bk (by omega) (by omega), Awj, Int32.ofInt_sub, Int32.ofInt_toInt, Int32.ofInt_toInt]
theorem Bmn (a b : Int32) : By (Ae (Ad a : Int) (Bs (Ad b : Int) (2 : Int))) = some (a + Bs b (2 : Int32)) := by
 have := Ac6 a
 have hb := Ac6 b
 have hd : -2147483648 ≤ b.toInt.tdiv 2 ∧ b.toInt.tdiv 2 ≤ 2147483648 := by
  rw [Int.tdiv_eq_ediv, show Int.sign 2 = 1 from rfl]
  by_cases h : 0 ≤ b.toInt ∨ 2 ∣ b.toInt
  ·rw [if_pos h]; omega
  ·rw [if_neg h]; omega
 have e : Bs b (2 : Int32) = Int32.ofInt (b.toInt.tdiv 2) := rfl
 rw [Ff, Ff, Af8, Cf (by omega) (by omega), Ag (by omega) (by omega), Awj, Int32.ofInt_add, Int32.ofInt_toInt, e]
theorem Ate (seg z : List Int32) (ch : Nat) (h6 : ch ≤ 6) (hs : seg.length = ch) (hz : z.length = ch) : ∀ (i q : Nat), i + 1 ≤ ch → i < q →
  Ey seg q ((i : Int) - 1) (sel (fun k => decide (i ≤ k)) (Aup (fun i => seg.getD i 0) ch) z) = some (Aup (fun i => seg.getD i 0) ch)
 | 0, q + 1, hi, _ => by
  rw [Ey, Jq, if_neg (by rw [Dz]; simp), Atj (fun k hk => by simp)]; rfl
 | i + 1, q + 1, hi, hq => by
  have hlen := Alv (fun i => seg.getD i 0) ch
  have e3 : Ae (i : Int) 1 = ((i + 1 : Nat) : Int) := by rw [Ag (by omega) (by omega)]; omega
  have hv : (Aup (fun i => seg.getD i 0) ch).getD (i + 1) 0 - seg.getD i 0 = (Aup (fun i => seg.getD i 0) ch).getD i 0 := by
   rw [Ats _ (by omega), Ats _ (by omega), show ch - 1 - i = (ch - 1 - (i + 1)) + 1 by omega, unV, show ch - 2 - (ch - 1 - (i + 1)) = i by omega]
  rw [Ey, Jq, show ((i + 1 : Nat) : Int) - 1 = (i : Int) by omega, if_pos (by rw [Dz]; simp), e3, Ajj (by omega), Aa, g32 (by omega), Aa, Aa, if_pos (by simp), Boy, Aa, Ajj (by omega), Aa, hv, Atl (by omega), Aa, Bk (by omega) (by omega)]
  have ih := Ate seg z ch h6 hs hz i q (by omega) (by omega)
  rw [← ih]
  congr 1
  apply Aar
  intro k _
  rw [Bool.eq_iff_iff]; simp; omega
theorem Bei {l : List Int32} {i : Nat} (v : Int32) (h : i < l.length) : (l.set i v).getD i 0 = v := by
 rw [Mr (by rw [List.length_set]; exact h)]; simp
theorem Bh2 (seg : List Int32) (ch : Nat) (h1 : 1 ≤ ch) (h6 : ch ≤ 6) (hs : seg.length = ch) : Nz seg = some (Aup (fun i => seg.getD i 0) ch) := by
 have hlen := Alv (fun i => seg.getD i 0) ch
 have hzl : (List.replicate ch (0 : Int32)).length = ch := by simp
 have e1 : Am (Ac seg) 1 = ((ch - 1 : Nat) : Int) := by rw [Ac, hs, Bk (by omega) (by omega)]; omega
 have e2 : Am (Ac seg) 2 = ((ch - 1 : Nat) : Int) - 1 := by rw [Ac, hs, Bk (by omega) (by omega)]; omega
 have hlast := Ats (fun i => seg.getD i 0) (show ch - 1 < ch by omega)
 rw [show ch - 1 - (ch - 1) = 0 by omega, unV] at hlast
 have hend : ∀ z : List Int32, z.length = ch → z.getD (ch - 1) 0 = (Aup (fun i => seg.getD i 0) ch).getD (ch - 1) 0 → Js seg z = some (Aup (fun i => seg.getD i 0) ch) := by
  intro z hz hzl
  have h := Ate seg z ch h6 hs hz (ch - 1) Ba (by omega) (by have := Ap; omega)
  have e : sel (fun k => decide (ch - 1 ≤ k)) (Aup (fun i => seg.getD i 0) ch) z = z := by
   apply List.ext_getElem (by rw [Am1, hlen, hz])
   intro k k1 k2
   rw [Aaz]
   by_cases hk : ch - 1 ≤ k
   ·obtain rfl : k = ch - 1 := by omega
    rw [if_pos (by simp), ← hzl, Mr k2]
   ·rw [if_neg (by simpa using hk), Mr k2]
  rw [e] at h
  rw [Js, Qv, e2]
  exact h
 rw [Nz, Qn, Ac, hs, Asv (by omega) (by omega), Aa, Bu (by rw [Bg]; simp), Aa]
 rw [Ac, hs] at e1
 rw [Ac, hs] at e2
 have hz1 : (List.replicate (Int.toNat (ch : Int)) (0 : Int32)).length = ch := by simp
 have hs1 := g32 (l := seg) (k := ch - 1) (by omega)
 rw [e1, hs1, Aa, g32 (by omega), Aa, We _ (by omega), Aa]
 by_cases hc : 1 < ch
 ·rw [if_pos hc] at hlast
  have e3 : ((ch - 1 : Nat) : Int) - 1 = ((ch - 2 : Nat) : Int) := by omega
  have hs2 := g32 (l := seg) (k := ch - 2) (by omega)
  rw [if_pos (by rw [Au]; simp; omega), Aa, e2, e3, hs2, Aa, Bmn, Aa, g32 (by rw [List.length_set]; omega), Aa, We _ (by rw [List.length_set]; omega), Aa]
  refine hend _ (by simp) ?_
  rw [hlast, Bei _ (by rw [List.length_set]; omega)]
 ·rw [if_neg hc] at hlast
  rw [if_neg (by rw [Au]; simp; omega)]
  refine hend _ (by simp) ?_
  rw [hlast, Bei _ (by omega)]
theorem Bq7 (ch : Nat) (m : List Int32) (h1 : 1 ≤ ch) (h6 : ch ≤ 6) (hm : m.length % ch = 0) (hl2 : m.length ≤ 4000) : Ma (ch : Int) m = some 0 := by
 rw [Ma, if_neg (by simp [Af, Au]; omega), if_neg (by rw [Au, Ac]; simp; omega), Bu (by rw [Ah]; simp; omega), Aa, if_neg]
 rw [Au, Jd, Ac, ← Int.ofNat_tmod, hm]; simp
theorem Auy (ch : Nat) (m : List Int32) (h1 : 1 ≤ ch) (h6 : ch ≤ 6) (hm : m.length % ch = 0) (hl2 : m.length ≤ 4000) : ∀ (j at' q : Nat), at' % ch = 0 → at' ≤ m.length → m.length - at' ≤ j → j < q →
  Ji (ch : Int) m q (at' : Int) ((unm ch m).take at') = some (unm ch m, 0)
 | j, at', q + 1, ha, hle, hj, hq => by
  have hlen := Aqi ch m
  rw [Ji, Wf]
  by_cases h : at' < m.length
  ·have hb := Bg4 ha hm h
   have e4 : Ae (at' : Int) (ch : Int) = ((at' + ch : Nat) : Int) := by rw [Ag (by omega) (by omega)]; omega
   have hrest := Auy ch m h1 h6 hm hl2 (j - 1) (at' + ch) q (by rw [Nat.add_mod_right, ha]) hb (by omega) (by omega)
   have hseg : ((m.take (at' + ch)).drop at').length = ch := by simp; omega
   have htl : ((unm ch m).take at').length = at' := by simp [hlen]; omega
   rw [if_pos (by rw [Af, Ac]; simp; omega), e4, Uj (by omega) (by omega) (by omega), Aa, show ((at' + ch : Nat) : Int).toNat = at' + ch from rfl, show (at' : Int).toNat = at' from rfl, Bh2 _ ch h1 h6 hseg, Aa, Dc (by rw [htl, Alv]; omega), Aa]
   have e : (unm ch m).take at' ++ Aup (fun i => ((m.take (at' + ch)).drop at').getD i 0) ch = (unm ch m).take (at' + ch) := by
    apply List.ext_getElem (by rw [List.length_append, htl, Alv, List.length_take, hlen]; omega)
    intro k k1 k2
    rw [List.length_take, hlen] at k2
    rw [List.getElem_append, List.getElem_take]
    by_cases hk : k < at'
    ·rw [dif_pos (by rw [htl]; exact hk), List.getElem_take]
    ·rw [dif_neg (by rw [htl]; exact hk)]
     have hu := Awd (m := m) ha (show k - at' < ch by omega) (by omega)
     rw [show at' + (k - at') = k by omega, Mr (by omega)] at hu
     have hx : ∀ n, n ≤ ch → unV (fun i => ((m.take (at' + ch)).drop at').getD i 0) ch n = unV (fun i => m.getD (at' + i) 0) ch n := by
      have hf : ∀ i, i < ch → ((m.take (at' + ch)).drop at').getD i 0 = m.getD (at' + i) 0 := by
       intro i hi
       rw [Mr (by omega), Mr (by omega)]; simp
      intro n
      induction n with
      | zero =>
       intro _; rw [unV, unV, hf _ (by omega)]; split
       ·rw [hf _ (by omega)]
       ·rfl
      | succ n ih => intro hn; rw [unV, unV, ih (by omega), hf _ (by omega)]
     have hy := Ats (fun i => ((m.take (at' + ch)).drop at').getD i 0) (show k - at' < ch by omega)
     rw [Mr (by rw [Alv]; omega)] at hy
     rw [hu, ← hx _ (by omega), ← hy]
     congr 1
     rw [htl]
   rw [e]
   exact hrest
  ·rw [if_neg (by rw [Af, Ac]; simp; omega), List.take_of_length_le (by omega)]; rfl
theorem Bl3 (ch : Nat) (m : List Int32) (h1 : 1 ≤ ch) (h6 : ch ≤ 6) (hm : m.length % ch = 0) (hl2 : m.length ≤ 4000) : Vk (ch : Int) m = some (unm ch m, 0) := by
 have h := Auy ch m h1 h6 hm hl2 m.length 0 Ba (by simp) (by omega) (by omega) (by have := Ap; omega)
 rw [Vk, Wk, Bq7 ch m h1 h6 hm hl2, Aa, if_neg (by rw [Ah]; simp)]
 exact h
end Go.Pl
set_option linter.unusedVariables false
set_option linter.unusedSimpArgs false
namespace Go.Pl
open Go Go.Lv
def pre {α : Type} (ch c : Nat) (f : α → Nat → α) (a0 : α) : Nat → α
 | 0 => a0
 | m + 1 => if m % ch = c then f (pre ch c f a0 m) m else pre ch c f a0 m
theorem Bk1 {α : Type} (ch c : Nat) (f : α → Nat → α) (a0 : α) : ∀ m, m ≤ c → c < ch → pre ch c f a0 m = a0
 | 0, _, _ => rfl
 | m + 1, h, h2 => by rw [pre, if_neg (by rw [Nat.mod_eq_of_lt (by omega)]; omega), Bk1 ch c f a0 m (by omega) h2]
theorem Bfk {α : Type} (ch c i : Nat) (f : α → Nat → α) (a0 : α) (hi : i % ch = c) (hc : c < ch) : ∀ j, j < ch → pre ch c f a0 (i + 1 + j) = pre ch c f a0 (i + 1)
 | 0, _ => rfl
 | j + 1, h => by
  have hne : (i + 1 + j) % ch ≠ c := by
   intro e
   have h1 : (i + (1 + j)) % ch = i % ch := by rw [hi, ← e]; congr 1; omega
   have h2 : (1 + j) % ch = 0 := by
    have h3 := Nat.sub_mod_eq_zero_of_mod_eq h1
    rwa [Nat.add_sub_cancel_left] at h3
   rw [Nat.mod_eq_of_lt (by omega)] at h2; omega
  rw [show i + 1 + (j + 1) = (i + 1 + j) + 1 by omega, pre, if_neg hne, Bfk ch c i f a0 hi hc j (by omega)]
theorem Bp7 {α : Type} (ch c i : Nat) (f : α → Nat → α) (a0 : α) (hi : i % ch = c) (hc : c < ch) : pre ch c f a0 (i + ch) = f (pre ch c f a0 i) i := by
 have h := Bfk ch c i f a0 hi hc (ch - 1) (by omega)
 rw [show i + 1 + (ch - 1) = i + ch by omega] at h
 rw [h, pre, if_pos hi]
abbrev CS := Int32 × List Int32 × List Int32
def Bqm (bits : Int) (s : CS) (y : Int32) : Int32 := y + gF (sB bits) s.2.1 s.2.2 + gs (shB bits) s.1
def Bkf (bits : Int) (s : CS) (y : Int32) : CS := (Bqm bits s y, lrn s.2.1 s.2.2 y, (y + gF (sB bits) s.2.1 s.2.2) :: s.2.2.take 15)
def cst (bits : Int) (ch : Nat) (t : List Int32) (v : List UInt32) (c : Nat) : Nat → CS := pre ch c (fun s i => Bkf bits s (Anx (v.getD i 0))) (0, t, List.replicate 16 0)
def OkC (bits : Int) (s : CS) : Prop := OkF (sB bits) s.2.1 s.2.2
theorem Bjf (bits : Int) (ch : Nat) {t : List Int32} (ht : t.length = 16) (v : List UInt32) (c : Nat) : ∀ m, OkC bits (cst bits ch t v c m)
 | 0 => ⟨Bvq bits, ht, by simp [cst, pre]⟩
 | m + 1 => by
  have ih := Bjf bits ch ht v c m
  rw [cst, pre]
  split
  ·exact Bpa ih _ _
  ·exact ih
def smp (bits : Int) (ch : Nat) (t : List Int32) (v : List UInt32) : List Int32 := (List.range v.length).map fun i => Bqm bits (cst bits ch t v (i % ch) i) (Anx (v.getD i 0))
theorem Ap3 (bits : Int) (ch : Nat) (t : List Int32) (v : List UInt32) : (smp bits ch t v).length = v.length := by simp [smp]
theorem Bjw (bits : Int) (ch : Nat) (t : List Int32) (v : List UInt32) {i : Nat} (h : i < v.length) : (smp bits ch t v).getD i 0 = Bqm bits (cst bits ch t v (i % ch) i) (Anx (v.getD i 0)) := by
 rw [Mr (by rw [Ap3]; exact h)]; simp [smp]
abbrev CL := Int × Int32 × (Int × (List Int32) × (List Int32) × Unit) × Unit
def toC (bits : Int) (s : CS) : CL := (bits, s.1, (sB bits, s.2.1, s.2.2, ()), ())
def cts (bits : Int) (ch : Nat) (t : List Int32) (v : List UInt32) (i : Nat) : List CL := (List.range 6).map fun c => toC bits (cst bits ch t v c i)
theorem Bra {bits : Int} {ch : Nat} {t : List Int32} {v : List UInt32} {i c : Nat} (h : c < 6) : getI (cts bits ch t v i) (c : Int) = some (toC bits (cst bits ch t v c i)) := by
 rw [Cq (by simp [cts]; exact h)]; simp [cts]
theorem Beq (bits : Int) (ch : Nat) (t : List Int32) (v : List UInt32) (c m : Nat) : cst bits ch t v c (m + 1) = if m % ch = c then Bkf bits (cst bits ch t v c m) (Anx (v.getD m 0)) else cst bits ch t v c m := rfl
theorem Bsh {bits : Int} {ch : Nat} {t : List Int32} {v : List UInt32} {i c : Nat} (h : c < 6) (hc : i % ch = c) : Qh (cts bits ch t v i) (c : Int) (toC bits (Bkf bits (cst bits ch t v c i) (Anx (v.getD i 0)))) = some (cts bits ch t v (i + 1)) := by
 rw [We _ (by simp [cts]; exact h)]
 congr 1
 apply List.ext_getElem (by simp [cts])
 intro k h1 h2
 rw [List.getElem_set]
 simp only [cts, List.getElem_map, List.getElem_range]
 by_cases hk : c = k
 ·subst hk; rw [if_pos rfl, Beq, if_pos hc]
 ·rw [if_neg hk, Beq, if_neg (by omega)]
section
variable {bits : Int} {ch : Nat} {t : List Int32} {v : List UInt32}
theorem Be6 (hb : Dn bits) (ht : t.length = 16) (h1 : 1 ≤ ch) (h6 : ch ≤ 6) (hv : v.length ≤ 4000) : ∀ (j i q : Nat), i + j = v.length → j < q →
  Hw v (ch : Int) bits q (i : Int) (cts bits ch t v i) ((smp bits ch t v).take i) = Ko (ch : Int) bits (smp bits ch t v)
 | 0, i, q + 1, hi, _ => by
  rw [Hw, Kk, if_neg (by rw [Af, Ac]; simp; omega), List.take_of_length_le (by rw [Ap3]; omega)]
 | j + 1, i, q + 1, hi, hq => by
  have hlen := Ap3 bits ch t v
  have hc : i % ch < 6 := Nat.lt_of_lt_of_le (Nat.mod_lt _ (by omega)) h6
  have hok := Bjf bits ch ht v (i % ch) i
  have hs := Bsh (bits := bits) (ch := ch) (t := t) (v := v) (i := i) hc rfl
  have hx := Bjw bits ch t v (i := i) (by omega)
  have hcb := Bmf hb hok (cst bits ch t v (i % ch) i).1 (Anx (v.getD i 0))
  have ih := Be6 hb ht h1 h6 hv j (i + 1) q (by omega) (by omega)
  rw [Ak4 (by omega), ← Mr (by omega), hx] at ih
  rw [Hw, Kk, if_pos (by rw [Af, Ac]; simp; omega), Ax5 (by omega), Aa, Bu (by rw [Ah]; simp; omega), Aa, Ar7, Bra hc, Aa, Aa, Bn6, Aa]
  refine Eq.trans (congrArg (fun o => Option.bind o _) hcb) ?_
  rw [Aa]
  simp only
  rw [Yn, Agw, if_neg (by rw [Ah]; simp), Ar7]
  refine Eq.trans (congrArg (fun o => Option.bind o _) hs) ?_
  rw [Aa, Dc (by simp; omega), Aa, Ag (by omega) (by omega)]
  exact ih
theorem Bl5 (hb : Dn bits) (ht : t.length = 16) (h1 : 1 ≤ ch) (h6 : ch ≤ 6) (hv : v.length ≤ 4000) : Tq (ch : Int) bits t v = Ko (ch : Int) bits (smp bits ch t v) := by
 have h := Be6 hb ht h1 h6 hv v.length 0 Ba (by omega) (by have := Ap; omega)
 have e : Ba = (Ba - 7) + 1 + 1 + 1 + 1 + 1 + 1 + 1 := by have := Ap; omega
 have hs : Pr v (ch : Int) bits t 0 (List.replicate 6 ((0 : Int), (0 : Int32), ((0 : Int), (List.replicate 16 (0 : Int32)), (List.replicate 16 (0 : Int32)), ()), ())) = Yp v (ch : Int) bits (cts bits ch t v 0) := by
  rw [Pr, e]
  obtain rfl | rfl | rfl := hb <;> rfl
 rw [Tq, Zy, hs]
 exact h
theorem Ba3 (bk : Int → List Int32 → Option (List Int32)) (hb : Dn bits) (ht : t.length = 16) (h1 : 1 ≤ ch) (h6 : ch ≤ 6) (hv : v.length ≤ 4000) (z : List Int32) (c : Nat) (hc : c < ch) : ∀ (j i q : Nat), i % ch = c → v.length - i ≤ j → i ≤ 5000 → j < q →
  Gv bk v (ch : Int) bits t (c : Int) q (i : Int) (sel (fun k => decide (k % ch < c ∨ (k % ch = c ∧ k < i))) (smp bits ch t v) z) bits (cst bits ch t v c i).1 (sB bits) (cst bits ch t v c i).2.1 (cst bits ch t v c i).2.2 =
   bk ((c + 1 : Nat) : Int) (sel (fun k => decide (k % ch < c + 1)) (smp bits ch t v) z)
 | j, i, q + 1, hi, hj, hi5, hq => by
  have hlen := Ap3 bits ch t v
  rw [Gv, Jk]
  by_cases h : i < v.length
  ·have hok := Bjf bits ch ht v c i
   have hst := Bmz hb hok (cst bits ch t v c i).1 (Anx (v.getD i 0))
   have hx := Bjw bits ch t v (i := i) h
   rw [hi] at hx
   have ih := Ba3 bk hb ht h1 h6 hv z c hc (j - 1) (i + ch) q (by rw [Nat.add_mod_right]; exact hi) (by omega) (by omega) (by omega)
   have hstep : cst bits ch t v c (i + ch) = Bkf bits (cst bits ch t v c i) (Anx (v.getD i 0)) := Bp7 ch c i _ _ hi hc
   rw [hstep] at ih
   have hset := Atl (p := fun k => decide (k % ch < c ∨ (k % ch = c ∧ k < i))) (a := smp bits ch t v) (b := z) (k := i) (by omega)
   rw [hx] at hset
   have hcong : sel (fun j => decide (j % ch < c ∨ (j % ch = c ∧ j < i)) || decide (j = i)) (smp bits ch t v) z = sel (fun k => decide (k % ch < c ∨ (k % ch = c ∧ k < i + ch))) (smp bits ch t v) z := by
    apply Aar
    intro k _
    rw [Bool.eq_iff_iff]
    simp only [Bool.or_eq_true, decide_eq_true_eq]
    constructor
    ·rintro ((h1 | h1) | h1)
     ·exact .inl h1
     ·exact .inr ⟨h1.1, by omega⟩
     ·subst h1; exact .inr ⟨hi, by omega⟩
    ·rintro (h1 | ⟨h1, h2⟩)
     ·exact .inl (.inl h1)
     ·by_cases h3 : k < i
      ·exact .inl (.inr ⟨h1, h3⟩)
      ·refine .inr ?_
       have h4 : (i + (k - i)) % ch = i % ch := by rw [show i + (k - i) = k by omega, h1, hi]
       have h5 := Nat.sub_mod_eq_zero_of_mod_eq h4
       rw [Nat.add_sub_cancel_left, Nat.mod_eq_of_lt (by omega)] at h5
       omega
   rw [hcong] at hset
   rw [if_pos (by rw [Af, Ac]; simp; omega), Ax5 h, Aa, Bso, Aa]
   refine Eq.trans (congrArg (fun o => Option.bind o _) hst) ?_
   rw [Aa]
   simp only
   rw [Qy, Qw, Ajj (by omega), Aa]
   refine Eq.trans (congrArg (fun o => Option.bind o _) hset) ?_
   rw [Aa, Qo, Aa4, Ag (by omega) (by omega)]
   exact ih
  ·rw [if_neg (by rw [Af, Ac]; simp; omega), Qj, Aau, Ag (by omega) (by omega)]
   have hcong : sel (fun k => decide (k % ch < c ∨ (k % ch = c ∧ k < i))) (smp bits ch t v) z = sel (fun k => decide (k % ch < c + 1)) (smp bits ch t v) z := by
    apply Aar
    intro k hk
    rw [Bool.eq_iff_iff]
    simp only [decide_eq_true_eq]
    omega
   rw [hcong]; rfl
theorem Bb3 (hb : Dn bits) (ht : t.length = 16) (h1 : 1 ≤ ch) (h6 : ch ≤ 6) (hv : v.length ≤ 4000) (z : List Int32) : ∀ (j c q : Nat), c + j = ch → j < q →
  Dy v (ch : Int) bits t q (c : Int) (sel (fun k => decide (k % ch < c)) (smp bits ch t v) z) = Jr (ch : Int) bits (smp bits ch t v)
 | 0, c, q + 1, hc, _ => by
  rw [Dy, Jl, if_neg (by rw [Af]; simp; omega), Atj (fun k hk => by have := Nat.mod_lt k (show 0 < ch by omega); simp; omega)]
 | j + 1, c, q + 1, hc, hq => by
  have ih := Bb3 hb ht h1 h6 hv z j (c + 1) q (by omega) (by omega)
  have hin := Ba3 (Dy v (ch : Int) bits t q) hb ht h1 h6 hv z c (by omega) v.length c Ba (Nat.mod_eq_of_lt (by omega)) (by omega) (by omega) (by have := Ap; omega)
  have h0 : cst bits ch t v c c = (0, t, List.replicate 16 0) := Bk1 ch c _ _ c (Nat.le_refl _) (by omega)
  rw [h0] at hin
  have hcong : sel (fun k => decide (k % ch < c ∨ (k % ch = c ∧ k < c))) (smp bits ch t v) z = sel (fun k => decide (k % ch < c)) (smp bits ch t v) z := by
   apply Aar
   intro k hk
   have := Nat.mod_le k ch
   rw [Bool.eq_iff_iff]
   simp only [decide_eq_true_eq]
   omega
  rw [hcong] at hin
  rw [Dy, Jl, if_pos (by rw [Af]; simp; omega), Bv2 hb, Aa]
  simp only
  rw [Qm]
  exact Eq.trans hin ih
theorem Bm5 (hb : Dn bits) (ht : t.length = 16) (h1 : 1 ≤ ch) (h6 : ch ≤ 6) (hv : v.length ≤ 4000) (hm : v.length % ch = 0) : Dd (ch : Int) bits t v = some (unm ch (smp bits ch t v)) := by
 have hlen := Ap3 bits ch t v
 have h := Bb3 hb ht h1 h6 hv (List.replicate v.length 0) ch 0 Ba (by omega) (by have := Ap; omega)
 rw [Ata (by rw [hlen]; simp) (fun k _ => by simp)] at h
 rw [Dd, Tc, Ac, Asv (by omega) (by omega), Aa, Bu (by rw [Bg]; simp), Aa, Rj]
 refine Eq.trans h ?_
 rw [Jr, Aa1, Bl3 ch _ h1 h6 (by rw [hlen]; exact hm) (by omega), Aa]
end
def hB (bits : Int) : Int := if bits = 8 then 128 else if bits = 16 then 32768 else 8388608
theorem Bdm {bits : Int} (h : Dn bits) : Xf bits = some (Int32.ofInt (-(hB bits)), Int32.ofInt (hB bits - 1), 0) := by
 obtain rfl | rfl | rfl := h <;> decide
theorem Ay0 {bits : Int} (h : Dn bits) : Jo bits = some (hB bits) := by
 obtain rfl | rfl | rfl := h <;> rfl
theorem Aun (bits : Int) : 0 < hB bits ∧ hB bits ≤ 8388608 := by
 unfold hB; split; · omega
 ·split <;> omega
theorem Az2 {bits : Int} (h : Dn bits) (l : List Int32) (hl : l.length ≤ 4000) : ∀ (j i q : Nat), i + j = l.length → j < q →
  Re (Int32.ofInt (-(hB bits))) (Int32.ofInt (hB bits - 1)) l q (i : Int) = Bv l (hB bits) q (i : Int)
 | 0, i, q + 1, hi, _ => by
  rw [Re, Abt, Bv, Et, if_neg (by rw [Af, Ac]; simp; omega), if_neg (by rw [Af, Ac]; simp; omega)]; rfl
 | j + 1, i, q + 1, hi, hq => by
  have hh := Aun bits
  have ih := Az2 h l hl j (i + 1) q (by omega) (by omega)
  have e1 : (Int32.ofInt (-(hB bits))).toInt = -(hB bits) := by rw [Int32.toInt_ofInt, Int.bmod_eq_of_le (by show -(4294967296 / 2 : Int) ≤ _; omega) (by show _ < (4294967296 + 1) / 2; omega)]
  have e2 : (Int32.ofInt (hB bits - 1)).toInt = hB bits - 1 := by rw [Int32.toInt_ofInt, Int.bmod_eq_of_le (by show -(4294967296 / 2 : Int) ≤ _; omega) (by show _ < (4294967296 + 1) / 2; omega)]
  rw [Re, Abt, Bv, Et, if_pos (by rw [Af, Ac]; simp; omega), if_pos (by rw [Af, Ac]; simp; omega), g32 (by omega), Aa, Aa, Aa, Ff, Bh8, Cf (by omega) (by omega), Ag (by omega) (by omega), Bdv, Bjg, e1, e2, Af, Dz]
  generalize (l.getD i 0).toInt = X
  by_cases h1 : X < -(hB bits)
  ·rw [if_pos (by simp; omega), if_pos (by simp; omega)]
  ·rw [if_neg (c := decide (X < 0 - hB bits) = true) (by simp; omega)]
   by_cases h2 : hB bits ≤ X
   ·rw [if_pos (by simp; omega), if_pos (by simp; omega)]
   ·rw [if_neg (by simp; omega), if_neg (by simp; omega)]; exact ih
theorem Awv {bits : Int} (h : Dn bits) (l : List Int32) (hl : l.length ≤ 4000) : Ae6 bits l = cadenzaref18_Check bits l := by
 have hh := Aun bits
 rw [Ae6, Aiw, Bdm h, Aa, cadenzaref18_Check, Ii, Ay0 h, Aa]
 simp only
 rw [if_neg (by rw [Ah]; simp), if_neg (by rw [Au, Ac]; simp; omega), if_neg (by rw [Bg]; simp; omega), if_neg (by rw [Au, Ac]; simp; omega)]
 exact Az2 h l hl l.length 0 Ba (by omega) (by have := Ap; omega)
theorem Bh0 {bits : Int} (h : Dn bits) (l : List Int32) (hl : l.length ≤ 4000) : ∃ e, cadenzaref18_Check bits l = some e := by
 have hh := Aun bits
 have key : ∀ (j i q : Nat), i + j = l.length → j < q → ∃ e, Bv l (hB bits) q (i : Int) = some e := by
  intro j
  induction j with
  | zero =>
   intro i q hi hq
   obtain ⟨q, rfl⟩ : ∃ k, q = k + 1 := ⟨q - 1, by omega⟩
   rw [Bv, Et, if_neg (by rw [Af, Ac]; simp; omega)]
   exact ⟨_, rfl⟩
  | succ j ih =>
   intro i q hi hq
   obtain ⟨q, rfl⟩ : ∃ k, q = k + 1 := ⟨q - 1, by omega⟩
   rw [Bv, Et, if_pos (by rw [Af, Ac]; simp; omega), g32 (by omega), Aa, Aa, Ag (by omega) (by omega)]
   split
   ·exact ⟨_, rfl⟩
   ·split
    ·exact ⟨_, rfl⟩
    ·exact ih (i + 1) q (by omega) (by omega)
 obtain ⟨e, he⟩ := key l.length 0 Ba (by omega) (by have := Ap; omega)
 rw [cadenzaref18_Check, Ii, Ay0 h, Aa, if_neg (by rw [Bg]; simp; omega), if_neg (by rw [Au, Ac]; simp; omega)]
 exact ⟨e, he⟩
theorem Bda {bits : Int} {ch : Nat} {t : List Int32} {v : List UInt32} (hb : Dn bits) (ht : t.length = 16) (h1 : 1 ≤ ch) (h6 : ch ≤ 6) (hv : v.length ≤ 4000) (hm : v.length % ch = 0) :
  ∃ l e, Dd (ch : Int) bits t v = some l ∧ Dx (ch : Int) bits l = some (if e ≠ 0 then ([], e) else (l, 0)) ∧ Tq (ch : Int) bits t v = some (if e ≠ 0 then ([], e) else (l, 0)) ∧ cadenzaref18_Check bits l = some e ∧ l.length = v.length := by
 have hlen := Ap3 bits ch t v
 have hul := Aqi ch (smp bits ch t v)
 obtain ⟨e, he⟩ := Bh0 hb (unm ch (smp bits ch t v)) (by omega)
 refine ⟨unm ch (smp bits ch t v), e, Bm5 hb ht h1 h6 hv hm, ?_, ?_, he, by omega⟩
 ·rw [Dx, he, Aa]
  by_cases h : e = 0
  ·rw [if_neg (by rw [Ah]; simpa using h), if_neg (by simpa using h)]
  ·rw [if_pos (by rw [Ah]; simpa using h), if_pos h]
 ·rw [Bl5 hb ht h1 h6 hv, Ko, Agu, Bsl ch _ h1 h6 (by rw [hlen]; exact hm) (by omega), Aa]
  simp only
  rw [if_neg (by rw [Ah]; simp), Awv hb _ (by omega), he, Aa]
  by_cases h : e = 0
  ·rw [if_neg (by rw [Ah]; simpa using h), if_neg (by simpa using h)]
  ·rw [if_pos (by rw [Ah]; simpa using h), if_pos h]
end Go.Pl
set_option linter.unusedVariables false
set_option linter.unusedSimpArgs false
namespace Go.Pl
open Go Go.Lv
def Ao1 (s : Nat) : Nat := (s / 2) ^^^ (if s % 2 = 1 then 3988292384 else 0)
theorem Azc {s : Nat} (h : s < 4294967296) : Ao1 s < 4294967296 := by
 unfold Ao1
 exact Nat.xor_lt_two_pow (n := 32) (by simp; omega) (by split <;> decide)
theorem Bfa (x y : Nat) : (x ^^^ y) / 2 = (x / 2) ^^^ (y / 2) := by
 have := Nat.shiftRight_xor_distrib (a := x) (b := y) (i := 1)
 simpa [Nat.shiftRight_eq_div_pow] using this
theorem Bm7 (x y : Nat) : Ao1 (x ^^^ y) = Ao1 x ^^^ Ao1 y := by
 have h : (x ^^^ y) % 2 = (x % 2 + y % 2) % 2 := by
  have := Nat.xor_mod_two_eq_one (a := x) (b := y)
  have h1 : (x ^^^ y) % 2 < 2 := Nat.mod_lt _ (by omega)
  omega
 simp only [Ao1, Bfa, h]
 have hx : x % 2 = 0 ∨ x % 2 = 1 := by omega
 have hy : y % 2 = 0 ∨ y % 2 = 1 := by omega
 rcases hx with hx | hx <;> rcases hy with hy | hy <;> simp only [hx, hy] <;> simp
 ·rw [Nat.xor_assoc]
 ·rw [Nat.xor_assoc, Nat.xor_comm (y / 2), Nat.xor_assoc, Nat.xor_comm 3988292384 (y/2)]
 ·rw [Nat.xor_assoc, Nat.xor_comm 3988292384, Nat.xor_assoc, Nat.xor_self]; simp
def Xy : Nat → Nat → Nat
 | 0, s => s
 | k + 1, s => Xy k (Ao1 s)
theorem Bb5 : ∀ (k x y : Nat), Xy k (x ^^^ y) = Xy k x ^^^ Xy k y
 | 0, _, _ => rfl
 | k + 1, x, y => by rw [Xy, Bm7, Bb5 k]; rfl
theorem Bbz : ∀ (k h : Nat), Xy k (2 ^ k * h) = h
 | 0, h => by simp [Xy]
 | k + 1, h => by
  have : Ao1 (2 ^ (k + 1) * h) = 2 ^ k * h := by
   rw [Nat.pow_succ, Nat.mul_comm (2 ^ k) 2, Nat.mul_assoc, Ao1, if_neg (by omega), Nat.mul_div_cancel_left _ (by omega)]; simp
  rw [Xy, this, Bbz k]
theorem Ay5 : ∀ (k : Nat) {s : Nat}, s < 4294967296 → Xy k s < 4294967296
 | 0, _, h => h
 | k + 1, _, h => Ay5 k (Azc h)
def Avf (s c : Nat) : Nat := Xy 8 (s ^^^ c)
theorem Axo {s c : Nat} (h : s < 4294967296) (hc : c < 256) : Avf s c < 4294967296 := Ay5 8 (Nat.xor_lt_two_pow (n := 32) (by simpa using h) (by simp; omega))
theorem Be7 {s c : Nat} (hc : c < 256) : Avf s c = (s / 256) ^^^ Xy 8 ((s % 256) ^^^ c) := by
 have h : s = (2 ^ 8 * (s / 256)) ^^^ (s % 256) := by
  have h1 : s % 256 < 2 ^ 8 := by simpa using Nat.mod_lt s (by omega : 256 > 0)
  have := Nat.two_pow_add_eq_or_of_lt h1 (s / 256)
  have h2 : 2 ^ 8 * (s / 256) ||| s % 256 = (2 ^ 8 * (s / 256)) ^^^ (s % 256) := by
   apply Nat.eq_of_testBit_eq; intro i
   rw [Nat.testBit_or, Nat.testBit_xor]
   by_cases hi : i < 8
   ·have : (2 ^ 8 * (s / 256)).testBit i = false := by rw [Nat.testBit_two_pow_mul]; simp; omega
    rw [this]; simp
   ·have : (s % 256).testBit i = false := Nat.testBit_lt_two_pow (Nat.lt_of_lt_of_le h1 (Nat.pow_le_pow_right (by omega) (by omega)))
    rw [this]; simp
  omega
 rw [Avf]
 conv => lhs; rw [h]
 rw [Nat.xor_assoc, Bb5, Bbz]
def Blw (s : Nat) (l : List UInt8) : Nat := l.foldl (fun s c => Avf s c.toNat) s
def Hs (b : List UInt8) : UInt32 := 4294967295 - UInt32.ofNat (Blw 4294967295 b)
theorem Brq (s : UInt32) (c : Nat) (hc : c < 256) : Vd s (Ad (Abb (UInt8.ofNat c) (2 : UInt8)) : Int) = some (UInt32.ofNat (s.toNat / 2 ^^^ (if (s.toNat ^^^ c) % 2 = 1 then 3988292384 else 0))) := by
 have h1 : (Ad (Abb (UInt8.ofNat c) (2 : UInt8)) : Int) = ((c % 2 : Nat) : Int) := by
  rw [Aeo, Bsv, UInt8.toNat_mod, UInt8.toNat_ofNat']
  show ((c % 256 % 2 : Nat) : Int) = _
  omega
 have h2 : geq (Abb s (2 : UInt32)) (1 : UInt32) = decide (s.toNat % 2 = 1) := by
  rw [Bdz, Bf6, Bool.eq_iff_iff]
  simp only [beq_iff_eq, decide_eq_true_eq]
  rw [← UInt32.toNat_inj, UInt32.toNat_mod]; rfl
 have h3 : Bs s (2 : UInt32) = UInt32.ofNat (s.toNat / 2) := by
  apply UInt32.toNat_inj.1
  rw [Bfi, UInt32.toNat_div, UInt32.toNat_ofNat']
  show s.toNat / 2 = _
  have := s.toNat_lt
  omega
 have h4 : Zf (Bs s (2 : UInt32)) (3988292384 : UInt32) = UInt32.ofNat (s.toNat / 2 ^^^ 3988292384) := by
  apply UInt32.toNat_inj.1
  rw [h3, Asm, UInt32.toNat_xor, UInt32.toNat_ofNat', UInt32.toNat_ofNat']
  have := s.toNat_lt
  rw [Nat.mod_eq_of_lt (a := s.toNat / 2) (by omega), Nat.mod_eq_of_lt]
  ·rfl
  ·exact Nat.xor_lt_two_pow (n := 32) (by omega) (by decide)
 have hx : (s.toNat ^^^ c) % 2 = (s.toNat % 2 + c % 2) % 2 := by
  have := Nat.xor_mod_two_eq_one (a := s.toNat) (b := c)
  have h1 : (s.toNat ^^^ c) % 2 < 2 := Nat.mod_lt _ (by omega)
  omega
 have hs : s.toNat % 2 = 0 ∨ s.toNat % 2 = 1 := by omega
 have hc2 : c % 2 = 0 ∨ c % 2 = 1 := by omega
 rw [Vd, Xb, h1, h2, hx]
 rcases hs with hs | hs <;> rcases hc2 with hc2 | hc2 <;> simp [hs, hc2, Bg, Wd, Afv, Asm, h3]
theorem Avi : ∀ (j i q : Nat) (s : UInt32) (c : Nat), i + j = 8 → j < q → c < 2 ^ j → Ha q s (UInt8.ofNat c) (i : Int) = some (UInt32.ofNat (Xy j (s.toNat ^^^ c)))
 | 0, i, q + 1, s, c, hi, _, hc => by
  obtain rfl : i = 8 := by omega
  obtain rfl : c = 0 := by simpa using hc
  rw [Ha, Ok, if_neg (by rw [Af]; simp), Vw, Af3, Xy]
  simp
 | j + 1, i, q + 1, s, c, hi, hq, hc => by
  have hc8 : c < 256 := Nat.lt_of_lt_of_le hc (show 2 ^ (j + 1) ≤ 2 ^ 8 from Nat.pow_le_pow_right (by omega) (by omega))
  rw [Ha, Ok, if_pos (by rw [Af]; simp; omega), Brq s c hc8, Aa, Ag (by omega) (by omega)]
  have e : Bs (UInt8.ofNat c) (2 : UInt8) = UInt8.ofNat (c / 2) := by
   apply UInt8.toNat_inj.1
   rw [Bsp, UInt8.toNat_div, UInt8.toNat_ofNat', UInt8.toNat_ofNat']
   show c % 256 / 2 = _
   omega
  rw [e]
  have h := Avi j (i + 1) q (UInt32.ofNat (s.toNat / 2 ^^^ (if (s.toNat ^^^ c) % 2 = 1 then 3988292384 else 0))) (c / 2) (by omega) (by omega) (by rw [Nat.pow_succ] at hc; omega)
  rw [show ((i : Int) + 1) = ((i + 1 : Nat) : Int) by omega, h, UInt32.toNat_ofNat', Xy]
  congr 3
  have := s.toNat_lt
  rw [Nat.mod_eq_of_lt, Ao1, Bfa, Nat.xor_assoc, Nat.xor_assoc, Nat.xor_comm (c / 2)]
  exact Nat.xor_lt_two_pow (n := 32) (by omega) (by split <;> decide)
theorem Bs8 (s : UInt32) (c : UInt8) : Abg s c = some (UInt32.ofNat (Avf s.toNat c.toNat)) := by
 have h := Avi 8 0 Ba s c.toNat (by omega) (by have := Ap; omega) (by simpa using c.toNat_lt)
 rw [UInt8.ofNat_toNat] at h
 exact h
theorem Arf (b : List UInt8) (hb : b.length < 4611686018427387904) : ∀ (j i q : Nat) (s : UInt32), i + j = b.length → j < q → Ft b q s (i : Int) = some (UInt32.ofNat (Blw s.toNat (b.drop i)))
 | 0, i, q + 1, s, hi, _ => by
  rw [Ft, Kx, if_neg (by rw [Af, Ac]; simp; omega), show i = b.length by omega, List.drop_length]
  simp [Ru, Ac1, Blw]
 | j + 1, i, q + 1, s, hi, hq => by
  have hlt : i < b.length := by omega
  rw [Ft, Kx, if_pos (by rw [Af, Ac]; simp; omega), Cq hlt, Aa, Bs8, Aa, Ag (by omega) (by omega)]
  have h := Arf b hb j (i + 1) q (UInt32.ofNat (Avf s.toNat b[i].toNat)) (by omega) (by omega)
  rw [show ((i : Int) + 1) = ((i + 1 : Nat) : Int) by omega, h, drop_cons hlt, UInt32.toNat_ofNat', Nat.mod_eq_of_lt (Axo s.toNat_lt b[i].toNat_lt)]
  rfl
theorem Bor (b : List UInt8) (hb : b.length < 4611686018427387904) : Nf b = some (Hs b) := by
 have h := Arf b hb b.length 0 Ba 4294967295 (by omega) (by have := Ap; omega)
 rw [Nf, Yb, Td, Se, show ((0 : Int)) = ((0 : Nat) : Int) from rfl, h, Aa, Bgm]; rfl
theorem Brr (c : UInt32) : Zf (Db c (GI.toZ (1 : UInt64)).toNat) (Bj (3988292384 : UInt32) (Iu c (1 : UInt32))) = UInt32.ofNat (Ao1 c.toNat) := by
 apply UInt32.toNat_inj.1
 have e : (GI.toZ (1 : UInt64)).toNat = 1 := rfl
 have h1 : (Db c 1).toNat = c.toNat / 2 := by rw [Alz]
 have h2 : (Bj (3988292384 : UInt32) (Iu c (1 : UInt32))).toNat = if c.toNat % 2 = 1 then 3988292384 else 0 := by
  rw [Bpj, Bgq, UInt32.toNat_mul, UInt32.toNat_and]
  show 3988292384 * (c.toNat &&& 1) % 4294967296 = _
  rw [Nat.and_one_is_mod]
  have : c.toNat % 2 = 0 ∨ c.toNat % 2 = 1 := by omega
  rcases this with h | h <;> simp [h]
 rw [e, Asm, UInt32.toNat_xor, h1, h2, UInt32.toNat_ofNat', Nat.mod_eq_of_lt (Azc c.toNat_lt)]; rfl
theorem Bgy (bk16 : Int → List UInt32 → Option (UInt32 × Int)) (s : UInt32) (b : List UInt8) (x : Int) (t : List UInt32) : ∀ (j i q : Nat) (c : UInt32), i + j = 8 → j < q →
  Qs bk16 s b x t q c (i : Int) = Ab1 bk16 s b x (UInt32.ofNat (Xy j c.toNat)) t
 | 0, i, q + 1, c, hi, _ => by
  obtain rfl : i = 8 := by omega
  rw [Qs, Abv, if_neg (by rw [Af]; simp), Xy, UInt32.ofNat_toNat]
 | j + 1, i, q + 1, c, hi, hq => by
  rw [Qs, Abv, if_pos (by rw [Af]; simp; omega), Brr, Ag (by omega) (by omega), show ((i : Int) + 1) = ((i + 1 : Nat) : Int) by omega, Bgy bk16 s b x t j (i + 1) q _ (by omega) (by omega), UInt32.toNat_ofNat', Nat.mod_eq_of_lt (Azc c.toNat_lt)]; rfl
def tbl (n : Nat) : List UInt32 := (List.range n).map fun i => UInt32.ofNat (Xy 8 i)
theorem Bju (s : UInt32) (b : List UInt8) : ∀ (j i q : Nat), i + j = 256 → j < q → Mc s b q (i : Int) (tbl i ++ List.replicate j 0) = Ab0 s b (tbl 256)
 | 0, i, q + 1, hi, _ => by
  obtain rfl : i = 256 := by omega
  rw [Mc, Abo, if_neg (by rw [Af]; simp)]; simp
 | j + 1, i, q + 1, hi, hq => by
  have hlen : (tbl i ++ List.replicate (j + 1) 0).length = i + (j + 1) := by simp [tbl]
  rw [Mc, Abo, if_pos (by rw [Af]; simp; omega), Ahu]
  have h := Bgy (Mc s b q) s b (i : Int) (tbl i ++ List.replicate (j + 1) 0) 8 0 Ba (Ad (i : Int)) (by omega) (by have := Ap; omega)
  rw [show ((0 : Int)) = ((0 : Nat) : Int) from rfl, h, Ab1, Ai5, Cq (by rw [hlen]; omega), Aa, We _ (by rw [hlen]; omega), Aa, Ah8, Apr, Ag (by omega) (by omega)]
  have e : (Ad (i : Int) : UInt32).toNat = i := by rw [Bb2, UInt32.toNat_ofNat', Nat.mod_eq_of_lt (by omega)]
  rw [e, List.replicate_succ, Aqr (by simp [tbl])]
  have h2 := Bju s b j (i + 1) q (by omega) (by omega)
  have h3 : tbl (i + 1) = tbl i ++ [UInt32.ofNat (Xy 8 i)] := by simp [tbl, List.range_succ]
  rw [h3] at h2
  rw [show ((i : Int) + 1) = ((i + 1 : Nat) : Int) by omega, ← h2]
  simp
theorem Br6 {i : Nat} (h : i < 256) : getI (tbl 256) (i : Int) = some (UInt32.ofNat (Xy 8 i)) := by
 rw [Cq (by simpa [tbl] using h)]; simp [tbl]
theorem Bnw (s : UInt32) (c : UInt8) : getI (tbl 256) (GI.toZ (Zf (Ad s : UInt8) c)) = some (UInt32.ofNat (Xy 8 ((s.toNat % 256) ^^^ c.toNat))) := by
 have e : GI.toZ (Zf (Ad s : UInt8) c) = (((s.toNat % 256) ^^^ c.toNat : Nat) : Int) := by
  rw [Aac, Bkm, UInt8.toNat_xor, Ar9, UInt8.toNat_ofNat']
 rw [e, Br6]
 exact Nat.xor_lt_two_pow (n := 8) (by simp; omega) (by simpa using c.toNat_lt)
theorem Blz (s : UInt32) (c : UInt8) : Zf (Db s (GI.toZ (8 : UInt64)).toNat) (UInt32.ofNat (Xy 8 ((s.toNat % 256) ^^^ c.toNat))) = UInt32.ofNat (Avf s.toNat c.toNat) := by
 apply UInt32.toNat_inj.1
 have hlt : Xy 8 ((s.toNat % 256) ^^^ c.toNat) < 4294967296 := Ay5 8 (Nat.xor_lt_two_pow (n := 32) (by simp; omega) (by have := c.toNat_lt; simp; omega))
 have e : (GI.toZ (8 : UInt64)).toNat = 8 := rfl
 rw [e, Asm, UInt32.toNat_xor, Alz, UInt32.toNat_ofNat', UInt32.toNat_ofNat', Nat.mod_eq_of_lt hlt, Nat.mod_eq_of_lt (Axo s.toNat_lt c.toNat_lt), Be7 c.toNat_lt]
theorem Beh (b : List UInt8) (hb : b.length < 4611686018427387904) : ∀ (j i q : Nat) (s : UInt32), i + j = b.length → j < q → Qg b (tbl 256) q s (i : Int) = some (UInt32.ofNat (Blw s.toNat (b.drop i)), 0)
 | 0, i, q + 1, s, hi, _ => by
  rw [Qg, Acr, if_neg (by rw [Af, Ac]; simp; omega), show i = b.length by omega, List.drop_length]
  simp [Ah9, Ao8, Blw]
 | j + 1, i, q + 1, s, hi, hq => by
  have hlt : i < b.length := by omega
  rw [Qg, Acr, if_pos (by rw [Af, Ac]; simp; omega), Cq hlt, Aa, Bnw, Aa, Aa, Blz, Ag (by omega) (by omega)]
  have h := Beh b hb j (i + 1) q (UInt32.ofNat (Avf s.toNat b[i].toNat)) (by omega) (by omega)
  rw [show ((i : Int) + 1) = ((i + 1 : Nat) : Int) by omega, h, drop_cons hlt, UInt32.toNat_ofNat', Nat.mod_eq_of_lt (Axo s.toNat_lt b[i].toNat_lt)]
  rfl
theorem Bs5 (s : UInt32) (b : List UInt8) (hb : b.length ≤ 100000) : Anb s b = some (UInt32.ofNat (Blw s.toNat b), 0) := by
 have h := Bju s b 256 0 Ba (by omega) (by have := Ap; omega)
 have h2 := Beh b (by omega) b.length 0 Ba s (by omega) (by have := Ap; omega)
 rw [Anb, Aj7, if_neg (by rw [Au, Ac]; simp; omega), Ah7]
 refine Eq.trans h ?_
 rw [Ab0, Ahz, Ahw, Ai3, Air]
 exact h2
theorem Bp4 (a : UInt32) : Axw a = 4294967295 - a := by
 have h := a.toNat_lt
 have e : Axw a = UInt32.ofNat (BitVec.ofInt 32 4294967295 ^^^ BitVec.ofInt 32 (a.toNat : Int)).toNat := Er _
 apply UInt32.toNat_inj.1
 rw [e, UInt32.toNat_ofNat', UInt32.toNat_sub_of_le _ _ (by rw [UInt32.le_iff_toNat_le]; show a.toNat ≤ 4294967295; omega)]
 have h1 : BitVec.ofInt 32 (a.toNat : Int) = a.toBitVec := Bd3 a
 have h2 : (BitVec.ofInt 32 4294967295 : BitVec 32) = BitVec.allOnes 32 := by decide
 rw [h1, h2, BitVec.allOnes_xor, BitVec.toNat_not]
 show (4294967296 - 1 - a.toNat) % 4294967296 = 4294967295 - a.toNat
 omega
theorem Bi8 (b : List UInt8) (hb : b.length ≤ 100000) : Ahj b = some (Hs b, 0) := by
 rw [Ahj, Bs5 _ _ hb, Aa]
 simp only [Ah, Bp4]
 rfl
end Go.Pl
set_option linter.unusedVariables false
set_option linter.unusedSimpArgs false
namespace Go.Pl
open Go Go.Lv
theorem Bk6 : ∀ {l m : List UInt8}, l.length = m.length → Es l = Es m → l = m
 | [], [], _, _ => rfl
 | x :: l, y :: m, h, e => by
  simp only [Es] at e
  have hx := x.toNat_lt
  have hy := y.toNat_lt
  have h1 : x = y := UInt8.toNat_inj.1 (by omega)
  rw [h1, Bk6 (l := l) (m := m) (by simpa using h) (by omega)]
theorem Bcs : ∀ (w n : Nat), Es (leB n w) = n % 256 ^ w
 | 0, n => by simp [leB, Es, Nat.mod_one]
 | w + 1, n => by
  rw [leB, Es, Bcs w (n / 256), UInt8.toNat_ofNat', show (256 : Nat) ^ (w + 1) = 256 * 256 ^ w by rw [Nat.pow_succ, Nat.mul_comm], Nat.mod_mul]
def Aa3 (b : List UInt8) : Int :=
 if b.length < 5 then 24 else if 41254 < b.length then 4 else if (Hs (b.take (b.length - 4))).toNat ≠ Es (b.drop (b.length - 4)) then 22 else 0
theorem Bfb (b : List UInt8) : Abw b = some (if Aa3 b ≠ 0 then ([], Aa3 b) else (b.take (b.length - 4), 0)) := by
 rw [Abw]
 by_cases h1 : b.length < 5
 ·have hS : Aa3 b = 24 := by rw [Aa3, if_pos h1]
  rw [if_pos (by rw [Af, Ac]; simp; omega), hS]; rfl
 rw [if_neg (by rw [Af, Ac]; simp; omega)]
 by_cases h2 : 41254 < b.length
 ·have hS : Aa3 b = 4 := by rw [Aa3, if_neg h1, if_pos h2]
  rw [if_pos (by rw [Au, Ac]; simp; omega), hS]; rfl
 have e4 : Am (Ac b) 4 = ((b.length - 4 : Nat) : Int) := by rw [Ac, Bk (by omega) (by omega)]; omega
 have hd : (b.drop (b.length - 4)).length = 4 := by simp; omega
 rw [if_neg (by rw [Au, Ac]; simp; omega), e4, Kt (by omega) (by omega), Aa, show ((b.length - 4 : Nat) : Int).toNat = b.length - 4 from rfl, Bi8 _ (by simp; omega), Aa]
 simp only
 rw [if_neg (by rw [Ah]; simp), Ng (by omega) (by omega), Aa, show ((b.length - 4 : Nat) : Int).toNat = b.length - 4 from rfl, Bf3 _ (by omega) (by omega), Aa]
 have hne : Cl (leU (b.drop (b.length - 4))) (Ad (Hs (b.take (b.length - 4))) : UInt64) = decide ((Hs (b.take (b.length - 4))).toNat ≠ Es (b.drop (b.length - 4))) := by
  have hlt := (Hs (b.take (b.length - 4))).toNat_lt
  rw [Ahc, Bool.eq_iff_iff]
  simp only [bne_iff_ne, ne_eq, ← UInt64.toNat_inj, decide_eq_true_eq]
  rw [Ajw (by omega), Ia, UInt64.toNat_ofNat', Nat.mod_eq_of_lt (by omega)]
  exact ⟨fun h e => h e.symm, fun h e => h e.symm⟩
 simp only
 rw [hne, Aa]
 by_cases h3 : (Hs (b.take (b.length - 4))).toNat ≠ Es (b.drop (b.length - 4))
 ·have hS : Aa3 b = 22 := by rw [Aa3, if_neg h1, if_neg h2, if_pos h3]
  rw [if_pos (by simp [h3]), hS]; rfl
 ·have hS : Aa3 b = 0 := by rw [Aa3, if_neg h1, if_neg h2, if_neg h3]
  rw [if_neg (by rw [decide_eq_false h3]; decide), hS]; rfl
theorem Bmw (b : List UInt8) (hb : b.length ≤ 1000000) : Py b = some (b ++ leB (Hs b).toNat 4) := by
 have h : ∀ k : Nat, (Ad (Db (Hs b) k) : UInt8) = UInt8.ofNat ((Hs b).toNat / 2 ^ k) := by
  intro k; rw [Ar9, Alz]
 have h0 : (Ad (Hs b) : UInt8) = UInt8.ofNat (Hs b).toNat := Ar9 _
 have h1 := h 8
 have h2 := h 16
 have h3 := h 24
 rw [Py, Bor b (by omega), Aa, Dc (by simp; omega), Aa, Dc (by simp; omega), Aa, h0, show (GI.toZ (8 : UInt64)).toNat = 8 from rfl, show (GI.toZ (16 : UInt64)).toNat = 16 from rfl, show (GI.toZ (24 : UInt64)).toNat = 24 from rfl, h1, h2, h3]
 simp only [leB, Nat.div_div_eq_div_mul, List.nil_append]
theorem Bhw (b : List UInt8) : Kj b = some (Aa3 b) := by
 rw [Kj]
 by_cases h1 : b.length < 5
 ·rw [if_pos (by rw [Af, Ac]; simp; omega), Aa3, if_pos h1]
 rw [if_neg (by rw [Af, Ac]; simp; omega)]
 by_cases h2 : 41254 < b.length
 ·rw [if_pos (by rw [Au, Ac]; simp; omega), Aa3, if_neg h1, if_pos h2]
 have e4 : Am (Ac b) 4 = ((b.length - 4 : Nat) : Int) := by rw [Ac, Bk (by omega) (by omega)]; omega
 have hd : (b.drop (b.length - 4)).length = 4 := by simp; omega
 rw [if_neg (by rw [Au, Ac]; simp; omega), e4, Kt (by omega) (by omega), Aa, show ((b.length - 4 : Nat) : Int).toNat = b.length - 4 from rfl, Bmw _ (by simp; omega), Aa]
 have hlt := (Hs (b.take (b.length - 4))).toNat_lt
 have hiff : (b.take (b.length - 4) ++ leB (Hs (b.take (b.length - 4))).toNat 4 != b) = decide ((Hs (b.take (b.length - 4))).toNat ≠ Es (b.drop (b.length - 4))) := by
  rw [Bool.eq_iff_iff]
  simp only [bne_iff_ne, ne_eq, decide_eq_true_eq]
  constructor
  ·intro h e
   apply h
   have : leB (Hs (b.take (b.length - 4))).toNat 4 = b.drop (b.length - 4) := Bk6 (by rw [Nh, hd]) (by rw [Bcs, Nat.mod_eq_of_lt (by omega), e])
   rw [this, List.take_append_drop]
  ·intro h e
   apply h
   have hx : leB (Hs (b.take (b.length - 4))).toNat 4 = b.drop (b.length - 4) := by
    have e2 : b.take (b.length - 4) ++ leB (Hs (b.take (b.length - 4))).toNat 4 = b.take (b.length - 4) ++ b.drop (b.length - 4) := by rw [e, List.take_append_drop]
    exact List.append_cancel_left e2
   rw [← hx, Bcs, Nat.mod_eq_of_lt (by omega)]
 rw [hiff]
 by_cases h3 : (Hs (b.take (b.length - 4))).toNat ≠ Es (b.drop (b.length - 4))
 ·rw [if_pos (by simp [h3]), Aa3, if_neg h1, if_neg h2, if_pos h3]
 ·rw [if_neg (by rw [decide_eq_false h3]; decide), Aa3, if_neg h1, if_neg h2, if_neg h3]
theorem Bp8 {b : List UInt8} (h : Aa3 b = 0) : 5 ≤ b.length ∧ b.length ≤ 41254 := by
 unfold Aa3 at h
 split at h
 ·simp at h
 ·split at h
  ·simp at h
  ·omega
theorem Bj4 {c : Nat} (h1 : 1 ≤ c) (h6 : c ≤ 6) : Bs (4000 : Int) (c : Int) = ((4000 / c : Nat) : Int) := by
 have : c = 1 ∨ c = 2 ∨ c = 3 ∨ c = 4 ∨ c = 5 ∨ c = 6 := by omega
 rcases this with rfl | rfl | rfl | rfl | rfl | rfl <;> rfl
theorem Bst (p : List UInt8) (h : p.length ≤ 41250) : okB p (8 * p.length) := ⟨by omega, by omega, fun k h1 h2 => by omega⟩
theorem Avx {bits : Int} {ch n : Nat} {t : List Int32} (b : List UInt8) (hb : Dn bits) (ht : t.length = 16) (h1 : 1 ≤ ch) (h6 : ch ≤ 6) (n1 : 1 ≤ n) (n2 : n ≤ 4000 / ch) :
  ∃ l e, deframe_Decode (ch : Int) bits t (n : Int) b = some (l, e) ∧ cadenzaref21_Decode (ch : Int) bits t (n : Int) b = some (l, e) ∧ (e = 0 → cadenzaref18_Check bits l = some 0 ∧ l.length ≤ 4000 ∧ l.length = n * ch) ∧ (e ≠ 0 → l = []) := by
 have hn : n * ch ≤ 4000 := by
  have := Nat.mul_le_mul_right ch n2
  have h2 := Nat.div_mul_le_self 4000 ch
  omega
 have hq4 := Bj4 h1 h6
 generalize 4000 / ch = mm at *
 have hck : Oz (ch : Int) bits = some 0 := by
  have hr : ∃ x y, Xf bits = some (x, y, 0) := ⟨_, _, Bdm hb⟩
  obtain ⟨x, y, hr⟩ := hr
  rw [Oz, hr, Aa]
  simp only
  rw [if_neg (by simp [Ah, Af, Au]; omega)]
 have hh := Aun bits
 have hasked : Ro (ch : Int) bits (n : Int) = some 0 := by
  rw [Ro, Zz, if_neg (by simp [Af, Au]; omega), Ay0 hb, Aa, if_neg (by rw [Bg]; simp; omega), Aa, if_neg (by simp [Ah, Af]; omega), Bu (by rw [Ah]; simp; omega), Aa, hq4, if_neg (by rw [Au]; simp; omega)]
 rw [deframe_Decode, cadenzaref21_Decode, Rz, hck, hasked, Aa, Aa, if_neg (by rw [Ah]; simp), if_neg (by rw [Af]; simp; omega), Bu (by rw [Ah]; simp; omega), Aa, hq4, if_neg (by rw [Au]; simp; omega), if_neg (by rw [Ah]; simp), Bfb, Bhw]
 by_cases hs : Aa3 b ≠ 0
 ·rw [if_pos hs]
  simp only [Aa]
  rw [if_pos (by rw [Ah]; simpa using hs), if_pos (by rw [Ah]; simpa using hs)]
  exact ⟨[], Aa3 b, rfl, rfl, fun e => absurd e hs, fun _ => rfl⟩
 have hs0 : Aa3 b = 0 := by simpa using hs
 have hlen := Bp8 hs0
 have e4 : Am (Ac b) 4 = ((b.length - 4 : Nat) : Int) := by rw [Ac, Bk (by omega) (by omega)]; omega
 rw [if_neg hs, hs0]
 simp only [Aa]
 rw [if_neg (by rw [Ah]; simp), if_neg (by rw [Ah]; simp), e4, Kt (by omega) (by omega), Aa, show ((b.length - 4 : Nat) : Int).toNat = b.length - 4 from rfl]
 have hpl : (b.take (b.length - 4)).length = b.length - 4 := by simp
 generalize b.take (b.length - 4) = p at *
 have e8 : Bj (8 : Int) (Ac p) = ((8 * p.length : Nat) : Int) := by rw [Ac, Gt (by omega) (by omega)]; omega
 have hp := Bst p (by omega)
 have hv := values_eq hp h1 h6 hn
 have hr := Bsi (N := 8 * p.length) (p := p) rfl (by omega) h1 h6 hn
 have hat := Bd5 (ch := ch) (p := p) (N := 8 * p.length) (n * ch) 0 [] (by omega)
 rw [Bde, if_neg (by rw [Au, Ac]; simp; omega), Hj, Dc (by simp; omega), Aa, Aa, Aa, List.nil_append, e8]
 simp only
 rw [if_neg (by rw [Ah]; simp), hv, hr, Aa, Aa]
 generalize Aba ch p (8 * p.length) (n * ch) 0 [] = V at *
 obtain ⟨v, at', e⟩ := V
 simp only at *
 by_cases he : e ≠ 0
 ·rw [if_pos he, if_pos he]
  simp only
  rw [if_pos (by rw [Ah]; simpa using he), La, Hn, if_pos (by rw [Ah]; simpa using he)]
  exact ⟨[], e, rfl, rfl, fun h => absurd h he, fun _ => rfl⟩
 have he0 : e = 0 := by simpa using he
 have hvl := hat.2.2 he0
 simp only [List.length_nil, Nat.zero_add] at hvl
 rw [if_neg he, if_neg he]
 simp only
 rw [if_neg (by rw [Ah]; simp), Bk (by omega) (by omega), show ((8 * p.length : Nat) : Int) - (at' : Int) = ((8 * p.length - at' : Nat) : Int) by omega, La, Hn]
 by_cases h7 : 7 < 8 * p.length - at'
 ·have hE : (if 7 < 8 * p.length - at' ∨ Cd p at' (8 * p.length - at') ≠ 0 then (12 : Int) else 0) = 12 := if_pos (.inl h7)
  rw [if_pos (by rw [Dz]; simp; omega), hE, if_pos (by decide)]
  exact ⟨[], 12, rfl, rfl, fun h => absurd h (by decide), fun _ => rfl⟩
 rw [if_neg (by rw [Dz]; simp; omega), Auj hp at' _ (by omega), if_neg (by omega), Aa]
 have hz : Cl (Wl p at' (8 * p.length - at')) (0 : UInt64) = decide (Cd p at' (8 * p.length - at') ≠ 0) := by
  rw [Ahc, Bool.eq_iff_iff]
  simp only [bne_iff_ne, ne_eq, ← UInt64.toNat_inj, decide_eq_true_eq]
  rw [Acd p _ _ (by omega)]; rfl
 simp only
 rw [hz]
 by_cases hv0 : Cd p at' (8 * p.length - at') ≠ 0
 ·have hE : (if 7 < 8 * p.length - at' ∨ Cd p at' (8 * p.length - at') ≠ 0 then (12 : Int) else 0) = 12 := if_pos (.inr hv0)
  rw [if_pos (by simp [hv0]), hE, if_pos (by decide)]
  exact ⟨[], 12, rfl, rfl, fun h => absurd h (by decide), fun _ => rfl⟩
 have hm : v.length % ch = 0 := by rw [hvl]; exact Nat.mul_mod_left n ch
 obtain ⟨l, e, g1, g2, g3, g4, g5⟩ := Bda (v := v) hb ht h1 h6 (by omega) hm
 have hE : (if 7 < 8 * p.length - at' ∨ Cd p at' (8 * p.length - at') ≠ 0 then (12 : Int) else 0) = 0 := if_neg (by omega)
 rw [if_neg (by rw [decide_eq_false hv0]; decide), hE, if_neg (by decide), g1, g3, Aa, Aa, g2]
 by_cases hl : e ≠ 0
 ·rw [if_pos hl]
  exact ⟨[], e, rfl, rfl, fun h => absurd h hl, fun _ => rfl⟩
 ·rw [if_neg hl]
  have hl0 : e = 0 := by simpa using hl
  exact ⟨l, 0, rfl, rfl, fun _ => ⟨by rw [g4, hl0], by omega, by omega⟩, fun e => absurd rfl e⟩
end Go.Pl
set_option linter.unusedVariables false
set_option linter.unusedSimpArgs false
namespace Go.Pl
open Go Go.Lv
def P64 : Nat := 4823603603198064275
def Ago (s : Nat) : Nat := (2 * s % 18446744073709551616) ^^^ (s / 9223372036854775808 * P64)
theorem Alj {s : Nat} (h : s < 18446744073709551616) : Ago s < 18446744073709551616 := by
 have h1 : s / 9223372036854775808 = 0 ∨ s / 9223372036854775808 = 1 := by omega
 exact Nat.xor_lt_two_pow (n := 64) (Nat.mod_lt _ (by decide)) (by rcases h1 with e | e <;> rw [e] <;> decide)
theorem Bjm (x y : Nat) : (x ^^^ y) / 9223372036854775808 = (x / 9223372036854775808) ^^^ (y / 9223372036854775808) := by
 have := Nat.shiftRight_xor_distrib (a := x) (b := y) (i := 63)
 simpa [Nat.shiftRight_eq_div_pow] using this
theorem Bjs (x y : Nat) : 2 * (x ^^^ y) % 18446744073709551616 = (2 * x % 18446744073709551616) ^^^ (2 * y % 18446744073709551616) := by
 have h1 := Nat.shiftLeft_xor_distrib (a := x) (b := y) (i := 1)
 have h2 := Nat.xor_mod_two_pow (a := 2 * x) (b := 2 * y) (n := 64)
 have e : 2 * (x ^^^ y) = (2 * x) ^^^ (2 * y) := by simpa [Nat.shiftLeft_eq, Nat.mul_comm] using h1
 rw [e]; exact h2
theorem Bq1 {a b : Nat} (ha : a = 0 ∨ a = 1) (hb : b = 0 ∨ b = 1) (p : Nat) : (a ^^^ b) * p = (a * p) ^^^ (b * p) := by
 rcases ha with rfl | rfl <;> rcases hb with rfl | rfl <;> simp
theorem Bw6 (a b c d : Nat) : (a ^^^ b) ^^^ (c ^^^ d) = (a ^^^ c) ^^^ (b ^^^ d) := by
 rw [Nat.xor_assoc, Nat.xor_assoc, ← Nat.xor_assoc b c d, Nat.xor_comm b c, Nat.xor_assoc c b d]
theorem Bio {x y : Nat} (hx : x < 18446744073709551616) (hy : y < 18446744073709551616) : Ago (x ^^^ y) = Ago x ^^^ Ago y := by
 rw [Ago, Ago, Ago, Bjs, Bjm, Bq1 (by omega) (by omega), Bw6]
def Mz : Nat → Nat → Nat
 | 0, s => s
 | k + 1, s => Mz k (Ago s)
theorem Aug : ∀ (k : Nat) {s : Nat}, s < 18446744073709551616 → Mz k s < 18446744073709551616
 | 0, _, h => h
 | k + 1, _, h => Aug k (Alj h)
theorem Axv : ∀ (k : Nat) {x y : Nat}, x < 18446744073709551616 → y < 18446744073709551616 → Mz k (x ^^^ y) = Mz k x ^^^ Mz k y
 | 0, _, _, _, _ => rfl
 | k + 1, x, y, hx, hy => by rw [Mz, Bio hx hy, Axv k (Alj hx) (Alj hy)]; rfl
theorem Aya : ∀ (k h : Nat), 2 ^ k * h < 18446744073709551616 → Mz k h = 2 ^ k * h
 | 0, h, _ => by simp [Mz]
 | k + 1, h, hl => by
  have hpos : 0 < 2 ^ k := Nat.pow_pos (by omega)
  rw [Nat.pow_succ, Nat.mul_assoc] at hl
  have h2 : 2 * h < 18446744073709551616 := Nat.lt_of_le_of_lt (Nat.le_mul_of_pos_left _ hpos) hl
  have : Ago h = 2 * h := by rw [Ago, Nat.mod_eq_of_lt h2, show h / 9223372036854775808 = 0 by omega]; simp
  rw [Mz, this, Aya k _ hl, Nat.pow_succ, Nat.mul_assoc]
def Api (s c : Nat) : Nat := Mz 8 (s ^^^ (c * 72057594037927936))
theorem c56 {c : Nat} (hc : c < 256) : c * 72057594037927936 < 18446744073709551616 := by omega
theorem Auh {s c : Nat} (h : s < 18446744073709551616) (hc : c < 256) : Api s c < 18446744073709551616 := Aug 8 (Nat.xor_lt_two_pow (n := 64) h (c56 hc))
theorem Bq4 (s : Nat) : s = (s / 72057594037927936 * 72057594037927936) ^^^ (s % 72057594037927936) := by
 have h1 : s % 72057594037927936 < 2 ^ 56 := Nat.mod_lt _ (by decide)
 have := Nat.two_pow_add_eq_or_of_lt h1 (s / 72057594037927936)
 have h2 : 2 ^ 56 * (s / 72057594037927936) ||| s % 72057594037927936 = (2 ^ 56 * (s / 72057594037927936)) ^^^ (s % 72057594037927936) := by
  apply Nat.eq_of_testBit_eq; intro i
  rw [Nat.testBit_or, Nat.testBit_xor]
  by_cases hi : i < 56
  ·have : (2 ^ 56 * (s / 72057594037927936)).testBit i = false := by rw [Nat.testBit_two_pow_mul]; simp; omega
   rw [this]; simp
  ·have : (s % 72057594037927936).testBit i = false := Nat.testBit_lt_two_pow (Nat.lt_of_lt_of_le h1 (Nat.pow_le_pow_right (by omega) (by omega)))
   rw [this]; simp
 rw [Nat.mul_comm (s / 72057594037927936)]
 show s = (2 ^ 56 * (s / 72057594037927936)) ^^^ _
 rw [← h2, ← this]
 have := Nat.div_add_mod s 72057594037927936
 show s = 72057594037927936 * _ + _
 omega
theorem Bmt (a c : Nat) : (a ^^^ c) * 72057594037927936 = (a * 72057594037927936) ^^^ (c * 72057594037927936) := by
 have h1 := Nat.shiftLeft_xor_distrib (a := a) (b := c) (i := 56)
 simpa [Nat.shiftLeft_eq] using h1
theorem Bcz {s c : Nat} (h : s < 18446744073709551616) (hc : c < 256) : Api s c = (256 * s % 18446744073709551616) ^^^ Mz 8 (((s / 72057594037927936) ^^^ c) * 72057594037927936) := by
 have hs : s / 72057594037927936 < 2 ^ 8 := by show _ < 256; omega
 have hx : (s / 72057594037927936) ^^^ c < 256 := Nat.xor_lt_two_pow (n := 8) hs (by simpa using hc)
 have hl : s % 72057594037927936 < 72057594037927936 := Nat.mod_lt _ (by decide)
 rw [Api]
 conv => lhs; rw [Bq4 s]
 rw [Nat.xor_comm (s / 72057594037927936 * 72057594037927936), Nat.xor_assoc, ← Bmt, Axv 8 (by omega) (c56 hx), Aya 8 _ (by show 256 * _ < _; omega)]
 congr 1
 show 256 * (s % 72057594037927936) = _
 omega
def Azn (s : Nat) (l : List UInt8) : Nat := l.foldl (fun s c => Api s c.toNat) s
theorem Bad {n : Nat} (h : n < 18446744073709551616) : (UInt64.ofNat n).toNat = n := by rw [UInt64.toNat_ofNat']; exact Nat.mod_eq_of_lt h
theorem Bt2 (s : UInt64) (bit : Nat) (hb : bit = 0 ∨ bit = 1) : Vs s (bit : Int) = some (UInt64.ofNat ((2 * s.toNat % 18446744073709551616) ^^^ (((s.toNat / 9223372036854775808) ^^^ bit) * P64))) := by
 have hs := s.toNat_lt
 have ht : s.toNat / 9223372036854775808 = 0 ∨ s.toNat / 9223372036854775808 = 1 := by omega
 have e1 : (Bj s (2 : UInt64)).toNat = 2 * s.toNat % 18446744073709551616 := by
  rw [Af0, UInt64.toNat_mul]; show s.toNat * 2 % _ = _; rw [Nat.mul_comm]
 have hlt : 2 * s.toNat % 18446744073709551616 < 18446744073709551616 := Nat.mod_lt _ (by decide)
 have ey : Zf (Bj s (2 : UInt64)) (4823603603198064275 : UInt64) = UInt64.ofNat ((2 * s.toNat % 18446744073709551616) ^^^ P64) := by
  apply UInt64.toNat_inj.1
  rw [Ay1, UInt64.toNat_xor, e1, Bad (Nat.xor_lt_two_pow (n := 64) hlt (by decide))]; rfl
 have en : Bj s (2 : UInt64) = UInt64.ofNat (2 * s.toNat % 18446744073709551616) := by
  apply UInt64.toNat_inj.1
  rw [e1, Bad hlt]
 have eg : Tm s (9223372036854775808 : UInt64) = decide (s.toNat / 9223372036854775808 = 1) := by
  rw [Bri, decide_eq_decide]
  show 9223372036854775808 ≤ s.toNat ↔ _
  omega
 have hp : ∀ b : Bool, Nk s b = some (if b = true then UInt64.ofNat ((2 * s.toNat % 18446744073709551616) ^^^ P64) else UInt64.ofNat (2 * s.toNat % 18446744073709551616)) := by
  intro b
  rw [Nk, Afi, ey, en]; cases b <;> rfl
 rw [Vs, Xg, hp, hp, eg]
 rcases hb with rfl | rfl <;> rcases ht with h | h <;> rw [h] <;> simp [Bg]
theorem Avj (c : UInt8) : ∀ (j q : Nat) (s : UInt64), j ≤ 8 → j < q → Hc c q s ((2 ^ j / 2 : Nat) : Int) = some (UInt64.ofNat (Mz j (s.toNat ^^^ (c.toNat % 2 ^ j * 2 ^ (64 - j)))))
 | 0, q + 1, s, _, _ => by
  rw [Hc, Np, if_neg (by rw [Au]; simp), Vy, Ae3]
  simp [Mz, Nat.mod_one]
 | j + 1, q + 1, s, hj, hq => by
  have hc := c.toNat_lt
  have hs := s.toNat_lt
  have hj2 : 2 ^ j ≤ 2 ^ 7 := Nat.pow_le_pow_right (by omega) (by omega)
  have hpos : 0 < 2 ^ j := Nat.pow_pos (by omega)
  have e1 : 2 ^ (j + 1) / 2 = 2 ^ j := by rw [Nat.pow_succ]; omega
  have e2 : Bs ((2 ^ j : Nat) : Int) 2 = ((2 ^ j / 2 : Nat) : Int) := by
   generalize 2 ^ j = K at *
   rw [Af8, Int.tdiv_eq_ediv_of_nonneg (by omega), Cf (by omega) (by omega)]; omega
  have e3 : Jd (Bs (Ad c : Int) ((2 ^ j : Nat) : Int)) (2 : Int) = ((c.toNat / 2 ^ j % 2 : Nat) : Int) := by
   have hX := Nat.div_le_self c.toNat (2 ^ j)
   rw [Aeo, Af8, ← Int.ofNat_tdiv]
   generalize c.toNat / 2 ^ j = X at *
   rw [Cf (by omega) (by omega), Jd, Int.tmod_eq_emod_of_nonneg (by omega)]; omega
  have hbit : c.toNat / 2 ^ j % 2 = 0 ∨ c.toNat / 2 ^ j % 2 = 1 := by omega
  rw [Hc, Np, e1, if_pos (by rw [Au, decide_eq_true_eq]; omega), Bu (by rw [Ah, bne_iff_ne]; omega), Aa, e3, Bt2 s _ hbit, Aa, e2, Avj c j q _ (by omega) (by omega)]
  congr 2
  rw [Mz]
  congr 1
  have hx : c.toNat % 2 ^ (j + 1) * 2 ^ (64 - (j + 1)) = (c.toNat / 2 ^ j % 2) * 9223372036854775808 + c.toNat % 2 ^ j * 2 ^ (63 - j) := by
   have h63 : (9223372036854775808 : Nat) = 2 ^ j * 2 ^ (63 - j) := by rw [← Nat.pow_add, show j + (63 - j) = 63 by omega]
   rw [Nat.mod_pow_succ, h63, show 64 - (j + 1) = 63 - j by omega, Nat.add_mul, Nat.add_comm, Nat.mul_assoc, Nat.mul_left_comm]
  have hr : c.toNat % 2 ^ j < 2 ^ j := Nat.mod_lt _ hpos
  have hb63 : c.toNat % 2 ^ j * 2 ^ (63 - j) < 9223372036854775808 := by
   have h63 : (9223372036854775808 : Nat) = 2 ^ j * 2 ^ (63 - j) := by rw [← Nat.pow_add, show j + (63 - j) = 63 by omega]
   rw [h63]; exact Nat.mul_lt_mul_of_pos_right hr (Nat.pow_pos (by omega))
  have h64 : c.toNat % 2 ^ j * 2 ^ (64 - j) = 2 * (c.toNat % 2 ^ j * 2 ^ (63 - j)) := by
   rw [show 64 - j = (63 - j) + 1 by omega, Nat.pow_succ, ← Nat.mul_assoc, Nat.mul_comm]
  rw [hx, h64]
  generalize c.toNat % 2 ^ j * 2 ^ (63 - j) = R at *
  generalize c.toNat / 2 ^ j % 2 = b at *
  have ht : s.toNat / 9223372036854775808 = 0 ∨ s.toNat / 9223372036854775808 = 1 := by omega
  have hp : ((s.toNat / 9223372036854775808 ^^^ b) * P64) < 18446744073709551616 := by
   rcases ht with h | h <;> rcases hbit with h2 | h2 <;> rw [h, h2] <;> decide
  rw [Bad (Nat.xor_lt_two_pow (n := 64) (Nat.mod_lt _ (by decide)) hp), Ago, Bjs, Bjm, show (b * 9223372036854775808 + R) / 9223372036854775808 = b by omega, show 2 * (b * 9223372036854775808 + R) % 18446744073709551616 = 2 * R by omega, Nat.xor_assoc, Nat.xor_assoc, Nat.xor_comm (2 * R)]
theorem Bu5 (c : UInt8) (s : UInt64) : Acp s c = some (UInt64.ofNat (Api s.toNat c.toNat)) := by
 have h := Avj c 8 Ba s (Nat.le_refl _) (by have := Ap; omega)
 have hc := c.toNat_lt
 rw [Nat.mod_eq_of_lt (show c.toNat < 2 ^ 8 by simpa using hc)] at h
 exact h
theorem Aqx (b : List UInt8) (hb : b.length < 4611686018427387904) : ∀ (j i q : Nat) (s : UInt64), i + j = b.length → j < q → Fp b q s (i : Int) = some (UInt64.ofNat (Azn s.toNat (b.drop i)))
 | 0, i, q + 1, s, hi, _ => by
  rw [Fp, Ks, if_neg (by rw [Af, Ac]; simp; omega), show i = b.length by omega, List.drop_length]
  simp [Rs, Abc, Azn]
 | j + 1, i, q + 1, s, hi, hq => by
  have hlt : i < b.length := by omega
  have hc := b[i].toNat_lt
  rw [Fp, Ks, if_pos (by rw [Af, Ac]; simp; omega), Cq hlt, Aa, Bu5, Aa, Ag (by omega) (by omega)]
  have h := Aqx b hb j (i + 1) q (UInt64.ofNat (Api s.toNat b[i].toNat)) (by omega) (by omega)
  rw [show ((i : Int) + 1) = ((i + 1 : Nat) : Int) by omega, h, drop_cons hlt, Bad (Auh s.toNat_lt (by simpa using hc))]
  rfl
def Afe (b : List UInt8) : UInt64 := UInt64.ofNat (Azn 0 b)
theorem Ben (b : List UInt8) (hb : b.length ≤ 100000) : Qc 0 b = some (Afe b) :=
 Aqx b (by omega) b.length 0 Ba 0 (by omega) (by have := Ap; omega)
theorem Bi4 (c : UInt64) : Zf (Eo c (GI.toZ (1 : UInt64)).toNat) (Bj (4823603603198064275 : UInt64) (Db c (GI.toZ (63 : UInt64)).toNat)) = UInt64.ofNat (Ago c.toNat) := by
 have hc := c.toNat_lt
 apply UInt64.toNat_inj.1
 have h1 : (Eo c (GI.toZ (1 : UInt64)).toNat).toNat = 2 * c.toNat % 18446744073709551616 := by
  rw [show (GI.toZ (1 : UInt64)).toNat = 1 from rfl, Al7, Nat.mul_comm]
 have h2 : (Bj (4823603603198064275 : UInt64) (Db c (GI.toZ (63 : UInt64)).toNat)).toNat = c.toNat / 9223372036854775808 * P64 := by
  rw [show (GI.toZ (63 : UInt64)).toNat = 63 from rfl, Af0, UInt64.toNat_mul, Afs]
  show 4823603603198064275 * (c.toNat / 9223372036854775808) % 18446744073709551616 = _
  have h1 : c.toNat / 9223372036854775808 = 0 ∨ c.toNat / 9223372036854775808 = 1 := by omega
  rcases h1 with e | e <;> rw [e] <;> decide
 rw [Ay1, UInt64.toNat_xor, h1, h2, Bad (Alj hc)]; rfl
theorem Au5 (bk16 : Int → List UInt64 → Option (UInt64 × Int)) (s : UInt64) (b : List UInt8) (x : Int) (t : List UInt64) : ∀ (j i q : Nat) (c : UInt64), i + j = 8 → j < q →
  Qi bk16 s b x t q c (i : Int) = Ac2 bk16 s b x (UInt64.ofNat (Mz j c.toNat)) t
 | 0, i, q + 1, c, hi, _ => by
  obtain rfl : i = 8 := by omega
  rw [Qi, Acz, if_neg (by rw [Af]; simp), Mz, UInt64.ofNat_toNat]
 | j + 1, i, q + 1, c, hi, hq => by
  rw [Qi, Acz, if_pos (by rw [Af]; simp; omega), Bi4, Ag (by omega) (by omega), show ((i : Int) + 1) = ((i + 1 : Nat) : Int) by omega, Au5 bk16 s b x t j (i + 1) q _ (by omega) (by omega), Bad (Alj c.toNat_lt)]; rfl
def Aji (n : Nat) : List UInt64 := (List.range n).map fun i => UInt64.ofNat (Mz 8 (i * 72057594037927936))
theorem Ax8 (s : UInt64) (b : List UInt8) : ∀ (j i q : Nat), i + j = 256 → j < q → Lp s b q (i : Int) (Aji i ++ List.replicate j 0) = Abk s b (Aji 256)
 | 0, i, q + 1, hi, _ => by
  obtain rfl : i = 256 := by omega
  rw [Lp, Acg, if_neg (by rw [Af]; simp)]; simp
 | j + 1, i, q + 1, hi, hq => by
  have hlen : (Aji i ++ List.replicate (j + 1) 0).length = i + (j + 1) := by simp [Aji]
  rw [Lp, Acg, if_pos (by rw [Af]; simp; omega), Ah2]
  have h := Au5 (Lp s b q) s b (i : Int) (Aji i ++ List.replicate (j + 1) 0) 8 0 Ba (Eo (Ad (i : Int) : UInt64) (GI.toZ (56 : UInt64)).toNat) (by omega) (by have := Ap; omega)
  rw [show ((0 : Int)) = ((0 : Nat) : Int) from rfl, h, Ac2, Aiy, Cq (by rw [hlen]; omega), Aa, We _ (by rw [hlen]; omega), Aa, Ajb, Aow, Ag (by omega) (by omega)]
  have e : (Eo (Ad (i : Int) : UInt64) (GI.toZ (56 : UInt64)).toNat).toNat = i * 72057594037927936 := by
   rw [Al7, Aay, Bad (by omega)]
   show i * 72057594037927936 % 18446744073709551616 = _
   omega
  rw [e, List.replicate_succ, Aqr (by simp [Aji])]
  have h2 := Ax8 s b j (i + 1) q (by omega) (by omega)
  have h3 : Aji (i + 1) = Aji i ++ [UInt64.ofNat (Mz 8 (i * 72057594037927936))] := by simp [Aji, List.range_succ]
  rw [h3] at h2
  rw [show ((i : Int) + 1) = ((i + 1 : Nat) : Int) by omega, ← h2]
  simp
theorem Bly {i : Nat} (h : i < 256) : getI (Aji 256) (i : Int) = some (UInt64.ofNat (Mz 8 (i * 72057594037927936))) := by
 rw [Cq (by simpa [Aji] using h)]; simp [Aji]
theorem Bf4 (s : UInt64) (c : UInt8) : getI (Aji 256) (GI.toZ (Zf (Ad (Db s (GI.toZ (56 : UInt64)).toNat) : UInt8) c)) = some (UInt64.ofNat (Mz 8 (((s.toNat / 72057594037927936) ^^^ c.toNat) * 72057594037927936))) := by
 have hs := s.toNat_lt
 have e : GI.toZ (Zf (Ad (Db s (GI.toZ (56 : UInt64)).toNat) : UInt8) c) = (((s.toNat / 72057594037927936) ^^^ c.toNat : Nat) : Int) := by
  have e2 : ((Ad (Db s (GI.toZ (56 : UInt64)).toNat) : UInt8)).toNat = s.toNat / 72057594037927936 := by
   rw [Amy, UInt8.toNat_ofNat', Afs]
   show s.toNat / 72057594037927936 % 256 = _
   omega
  rw [Aac, Bkm, UInt8.toNat_xor, e2]
 rw [e, Bly]
 exact Nat.xor_lt_two_pow (n := 8) (by show _ < 256; omega) (by simpa using c.toNat_lt)
theorem Bdu (s : UInt64) (c : UInt8) : Zf (Eo s (GI.toZ (8 : UInt64)).toNat) (UInt64.ofNat (Mz 8 (((s.toNat / 72057594037927936) ^^^ c.toNat) * 72057594037927936))) = UInt64.ofNat (Api s.toNat c.toNat) := by
 have hs := s.toNat_lt
 have hc : c.toNat < 256 := by simpa using c.toNat_lt
 apply UInt64.toNat_inj.1
 have hlt : Mz 8 (((s.toNat / 72057594037927936) ^^^ c.toNat) * 72057594037927936) < 18446744073709551616 := Aug 8 (c56 (Nat.xor_lt_two_pow (n := 8) (by show _ < 256; omega) (by simpa using c.toNat_lt)))
 have e : (GI.toZ (8 : UInt64)).toNat = 8 := rfl
 rw [e, Ay1, UInt64.toNat_xor, Al7, Bad hlt, Bad (Auh hs hc), Bcz hs hc, Nat.mul_comm s.toNat]
theorem Avc (b : List UInt8) (s0 : UInt64) (hb : b.length < 4611686018427387904) : ∀ (j i q : Nat) (s : UInt64), i + j = b.length → j < q → Ql b s0 (Aji 256) q s (i : Int) = some (UInt64.ofNat (Azn s.toNat (b.drop i)), 0)
 | 0, i, q + 1, s, hi, _ => by
  rw [Ql, Ab8, if_neg (by rw [Af, Ac]; simp; omega), show i = b.length by omega, List.drop_length]
  simp [Ahx, Aif, Ai1, Aog, Azn]
 | j + 1, i, q + 1, s, hi, hq => by
  have hlt : i < b.length := by omega
  have hc := b[i].toNat_lt
  rw [Ql, Ab8, if_pos (by rw [Af, Ac]; simp; omega), Cq hlt, Aa, Bf4, Aa, Aa, Bdu, Ag (by omega) (by omega)]
  have h := Avc b s0 hb j (i + 1) q (UInt64.ofNat (Api s.toNat b[i].toNat)) (by omega) (by omega)
  rw [show ((i : Int) + 1) = ((i + 1 : Nat) : Int) by omega, h, drop_cons hlt, Bad (Auh s.toNat_lt (by simpa using hc))]
  rfl
theorem Bf2 (b : List UInt8) (hb : b.length ≤ 100000) : Al6 b = some (Afe b, 0) := by
 have h := Ax8 0 b 256 0 Ba (by omega) (by have := Ap; omega)
 have h2 := Avc b 0 (by omega) b.length 0 Ba 0 (by omega) (by have := Ap; omega)
 have hn : Anl 0 b = some (Afe b, 0) := by
  rw [Anl, Akr, if_neg (by rw [Au, Ac]; simp; omega), Aig]
  refine Eq.trans h ?_
  rw [Abk, Ai8, Ai9]
  exact h2
 rw [Al6, hn, Aa]
theorem Bbr (p : List UInt8) (hp : p.length ≤ 64) : Aha p = some (leB (Afe p).toNat 8, 0) := by
 rw [Aha, Auf, if_neg (by rw [Au, Ac]; simp; omega), Bf2 p (by omega), Aa, Aa]
 simp only
 have h := Bfe (Afe p) 8 (by omega) (by omega) (by simpa using (Afe p).toNat_lt)
 rw [if_neg (by rw [Ah]; simp)]
 exact congrArg (fun o => Option.bind o fun x : List UInt8 × Int => some (x.1, x.2)) h
theorem Bb1 (p : List UInt8) (hp : p.length ≤ 64) : Jh p = some (leB (Afe p).toNat 8) := by
 have h := Ay3 (Afe p) 8 (by omega)
 rw [Jh, Abm, Ben p (by omega), Aa, Aa]
 exact congrArg (fun o => Option.bind o fun l => some l) h
def s8 (n : Nat) : Int32 := Int32.ofInt (if n < 128 then (n : Int) else (n : Int) - 256)
def Aj2 (d : UInt64) (n : Nat) : List Int32 := (List.range n).map fun i => s8 (d.toNat / 256 ^ i % 256)
theorem Als (d : UInt64) (n : Nat) : (Aj2 d n).length = n := by simp [Aj2]
theorem Axy (d : UInt64) (n : Nat) : Aj2 d (n + 1) = Aj2 d n ++ [s8 (d.toNat / 256 ^ n % 256)] := by simp [Aj2, List.range_succ]
theorem bm8 (z : Nat) : (z : Int).bmod Int8.size = if z % 256 < 128 then ((z % 256 : Nat) : Int) else ((z % 256 : Nat) : Int) - 256 := by
 rw [show Int8.size = 256 from rfl, Int.bmod_def]
 split <;> split <;> omega
theorem Bj1 (d : UInt64) : ∀ (j i q : Nat), i + j = 8 → j < q → Aed d q (i : Int) (Aj2 d i ++ List.replicate (16 - i) 0) = some (Aj2 d 8 ++ List.replicate 8 0)
 | 0, i, q + 1, hi, _ => by
  obtain rfl : i = 8 := by omega
  rw [Aed, Amc, if_neg (by rw [Af]; simp)]; rfl
 | j + 1, i, q + 1, hi, hq => by
  have hlen : (Aj2 d i ++ List.replicate (16 - i) 0).length = 16 := by simp [Als]; omega
  have ih := Bj1 d j (i + 1) q (by omega) (by omega)
  have e8 : Bj (8 : Int) (i : Int) = ((8 * i : Nat) : Int) := by rw [Gt (by omega) (by omega)]; omega
  have ev : (Ad (Ad (Db d (GI.toZ (((8 * i : Nat) : Int))).toNat) : Int8) : Int32) = s8 (d.toNat / 256 ^ i % 256) := by
   have e1 : (Db d (GI.toZ (((8 * i : Nat) : Int))).toNat).toNat = d.toNat / 256 ^ i := by
    rw [show (GI.toZ (((8 * i : Nat) : Int))).toNat = 8 * i from rfl, Afs, Nat.pow_mul]
   show Int32.ofInt (Int8.ofInt ((Db d (GI.toZ (((8 * i : Nat) : Int))).toNat).toNat : Int)).toInt = _
   rw [e1, s8, Int8.toInt_ofInt, bm8]
  rw [Aed, Amc, if_pos (by rw [Af]; simp; omega), e8, Bu (by rw [Dz]; simp; omega), Aa, ev, Cq (by omega), Aa, We _ (by omega), Aa, Ag (by omega) (by omega), show 16 - i = (15 - i) + 1 by omega, List.replicate_succ, Aqr (Als d i)]
  rw [Axy, show 16 - (i + 1) = 15 - i by omega, List.append_assoc] at ih
  exact ih
theorem Bpn (d : UInt64) : ∀ (j i q : Nat) (e : UInt64), i + j = 8 → j < q → e.toNat = d.toNat / 256 ^ i → Gq q e (i : Int) (Aj2 d i ++ List.replicate (16 - i) 0) = some (Aj2 d 8 ++ List.replicate 8 0)
 | 0, i, q + 1, e, hi, _, he => by
  obtain rfl : i = 8 := by omega
  rw [Gq, Sj, if_neg (by rw [Af]; simp)]; rfl
 | j + 1, i, q + 1, e, hi, hq, he => by
  have hlen : (Aj2 d i ++ List.replicate (16 - i) 0).length = 16 := by simp [Als]; omega
  have hq2 : (Bs e (256 : UInt64)).toNat = d.toNat / 256 ^ (i + 1) := by
   rw [Asg, UInt64.toNat_div, he, Nat.pow_succ, ← Nat.div_div_eq_div_mul]; rfl
  have ih := Bpn d j (i + 1) q (Bs e (256 : UInt64)) (by omega) (by omega) hq2
  have ev : (Ad (Abb e (256 : UInt64)) : Int32) = Int32.ofInt ((d.toNat / 256 ^ i % 256 : Nat) : Int) := by
   show Int32.ofInt ((Abb e (256 : UInt64)).toNat : Int) = _
   rw [Bgb, UInt64.toNat_mod, he]; rfl
  have hz : d.toNat / 256 ^ i % 256 < 256 := Nat.mod_lt _ (by omega)
  have et : (Int32.ofInt ((d.toNat / 256 ^ i % 256 : Nat) : Int)).toInt = ((d.toNat / 256 ^ i % 256 : Nat) : Int) := by
   rw [Int32.toInt_ofInt, Int.bmod_eq_of_le (by show -(4294967296 / 2 : Int) ≤ _; omega) (by show _ < (4294967296 + 1) / 2; omega)]
  have hp8 : ∀ x : Int32, x = s8 (d.toNat / 256 ^ i % 256) → Rw (Gq q) e (i : Int) (Aj2 d i ++ List.replicate (16 - i) 0) x = some (Aj2 d 8 ++ List.replicate 8 0) := by
   intro x hx
   rw [Rw, Ain, hx, Cq (by omega), Aa, We _ (by omega), Aa, Ag (by omega) (by omega), show 16 - i = (15 - i) + 1 by omega, List.replicate_succ, Aqr (Als d i)]
   rw [Axy, show 16 - (i + 1) = 15 - i by omega, List.append_assoc] at ih
   exact ih
  rw [Gq, Sj, if_pos (by rw [Af]; simp; omega), ev, Bjg, et, show (127 : Int32).toInt = 127 from rfl]
  by_cases h : d.toNat / 256 ^ i % 256 < 128
  ·rw [if_neg (by simp only [decide_eq_true_eq]; omega)]
   exact hp8 _ (by rw [s8, if_pos h])
  ·rw [if_pos (by simp only [decide_eq_true_eq]; omega)]
   refine hp8 _ ?_
   rw [s8, if_neg h, Ay9, Int32.ofInt_sub]; rfl
def tapsOf (p : List UInt8) : List Int32 := Aj2 (Afe p) 8 ++ List.replicate 8 0
theorem Aw6 (p : List UInt8) : (tapsOf p).length = 16 := by simp [tapsOf, Als]
theorem Bch (p : List UInt8) (hp : p.length ≤ 64) : Alw p = some (tapsOf p, 0) := by
 have h := Bj1 (Afe p) 8 0 Ba (by omega) (by have := Ap; omega)
 have h2 : Bc7 (Afe p) = some (tapsOf p) := h
 rw [Alw, if_neg (by rw [Au, Ac]; simp; omega), Bf2 p (by omega), Aa]
 simp only
 rw [if_neg (by rw [Ah]; simp), h2, Aa]
theorem Ax1 (p : List UInt8) (hp : p.length ≤ 64) : Hq p = some (tapsOf p, 0) := by
 have h := Bpn (Afe p) 8 0 Ba (Afe p) (by omega) (by have := Ap; omega) (by simp)
 have h2 : Aga (Afe p) = some (tapsOf p) := h
 rw [Hq, if_neg (by rw [Au, Ac]; simp; omega), Aef, Acm, if_neg (by rw [Au, Ac]; simp; omega), Ben p (by omega), Aa, Aa, Aa]
 simp only
 rw [h2, Aa]
end Go.Pl
set_option linter.unusedVariables false
set_option linter.unusedSimpArgs false
namespace Go.Pl
open Go Go.Lv
def u8 (z : Int) : UInt8 := UInt8.ofNat (z % 256).toNat
theorem Bd7 (z : Int) : u8 (z % 256) = u8 z := by rw [u8, u8]; congr 2; omega
def wB (bits : Int) : Nat := if bits = 8 then 1 else if bits = 16 then 2 else 3
theorem Aud {bits : Int} (h : Dn bits) : Bs bits 8 = (wB bits : Int) := by obtain rfl | rfl | rfl := h <;> rfl
theorem Au6 (bits : Int) : 1 ≤ wB bits ∧ wB bits ≤ 3 := by
 unfold wB; split; · omega
 ·split <;> omega
def Ad2 (bits : Int) (x : Int) : List UInt8 := if bits = 8 then [u8 (x + 128)] else if bits = 16 then [u8 x, u8 (x / 256)] else [u8 x, u8 (x / 256), u8 (x / 65536)]
theorem Bgt (bits x : Int) : (Ad2 bits x).length ≤ 3 := by
 unfold Ad2; split; · simp
 ·split <;> simp
theorem Boz (x : Int32) (k : Nat) (hk : k ≤ 32) : (Ad (Db x k) : UInt8) = u8 (x.toInt.fdiv (2 ^ k)) := by
 have h := Ac6 x
 have e : Db x k = Int32.ofInt (x.toInt.fdiv (2 ^ k)) := by
  show Int32.ofInt (x.toInt.fdiv (2 ^ min k 32)) = _
  rw [Nat.min_eq_left hk]
 have hb : -2147483648 ≤ x.toInt.fdiv (2 ^ k) ∧ x.toInt.fdiv (2 ^ k) < 2147483648 := by
  have hpos : (0 : Int) < 2 ^ k := Int.pow_pos (by omega)
  rw [Int.fdiv_eq_ediv_of_nonneg _ (by omega)]
  constructor
  ·refine (Int.le_ediv_iff_mul_le hpos).2 ?_
   have : (1 : Int) ≤ 2 ^ k := by omega
   have h2 : -2147483648 * (2 ^ k : Int) ≤ -2147483648 * 1 := Int.mul_le_mul_of_nonpos_left (by omega) this
   omega
  ·refine Int.ediv_lt_of_lt_mul hpos ?_
   have : (1 : Int) ≤ 2 ^ k := by omega
   have h2 : (2147483648 : Int) * 1 ≤ 2147483648 * 2 ^ k := Int.mul_le_mul_of_nonneg_left this (by omega)
   omega
 show UInt8.ofNat ((Db x k).toInt % 256).toNat = _
 rw [e, Int32.toInt_ofInt, Int.bmod_eq_of_le (by show -(4294967296 / 2 : Int) ≤ _; omega) (by show _ < (4294967296 + 1) / 2; omega)]; rfl
section
variable (bk : Int → List UInt8 → Option (List UInt8 × Int)) (l : List Int32)
theorem Awg {bits : Int} (h : Dn bits) (c : Int32) (x : Int) (i q : Nat) (acc : List UInt8) (hi : i < wB bits) (ha : acc.length ≤ 100000) :
  Ib bk bits l c x (q + 1) (i : Int) acc = Ib bk bits l c x q ((i + 1 : Nat) : Int) (acc ++ [u8 (c.toInt.fdiv (2 ^ (8 * i)))]) := by
 have hw := Au6 bits
 have e8 : Bj (8 : Int) (i : Int) = ((8 * i : Nat) : Int) := by rw [Gt (by omega) (by omega)]; omega
 rw [Ib, Zr, Aud h, if_pos (by rw [Af]; simp; omega), e8, Bu (by rw [Dz]; simp; omega), Aa, show (GI.toZ (((8 * i : Nat) : Int))).toNat = 8 * i from rfl, Boz _ _ (by omega), Dc (by simp; omega), Aa, Ag (by omega) (by omega)]; rfl
theorem Bif {bits : Int} (h : Dn bits) (c : Int32) (x : Int) (q : Nat) (acc : List UInt8) : Ib bk bits l c x (q + 1) ((wB bits : Nat) : Int) acc = bk (Ae x 1) acc := by
 rw [Ib, Zr, Aud h, if_neg (by rw [Af]; simp), Agi, Anq]
theorem Bt3 {bits : Int} (h : Dn bits) (c : Int32) (x : Int) (acc : List UInt8) (ha : acc.length ≤ 90000) (hr : -(hB bits) ≤ c.toInt ∧ c.toInt < hB bits) :
  Kg bk bits l x acc (if bits = 8 then Ae c (128 : Int32) else c) = bk (Ae x 1) (acc ++ Ad2 bits c.toInt) := by
 have e : Ba = (Ba - 4) + 1 + 1 + 1 + 1 := by have := Ap; omega
 have hc := Ac6 c
 rw [Kg, Agp, Af9, e]
 have g0 := fun (c : Int32) q acc ha => Awg bk l h c x 0 q acc (by have := Au6 bits; omega) ha
 obtain rfl | rfl | rfl := h
 ·have hh : hB 8 = 128 := rfl
  rw [hh] at hr
  have e1 : (Ae c (128 : Int32)).toInt = c.toInt + 128 := by
   show (Int32.ofInt (c.toInt + (128 : Int32).toInt)).toInt = _
   rw [show (128 : Int32).toInt = 128 from rfl, Int32.toInt_ofInt, Int.bmod_eq_of_le (by show -(4294967296 / 2 : Int) ≤ _; omega) (by show _ < (4294967296 + 1) / 2; omega)]
  have g1 := Bif bk l (bits := 8) (.inl rfl) (Ae c (128 : Int32)) x (Ba - 4 + 1 + 1)
  rw [if_pos rfl, show (0 : Int) = ((0 : Nat) : Int) from rfl, g0 _ _ _ (by omega)]
  refine Eq.trans (g1 _) ?_
  rw [e1, Ad2, if_pos rfl]
  show bk _ (acc ++ [u8 ((c.toInt + 128).fdiv 1)]) = _
  rw [Int.fdiv_one]
 ·have g1 := fun q acc ha => Awg bk l (bits := 16) (.inr (.inl rfl)) c x 1 q acc (by decide) ha
  have g2 := Bif bk l (bits := 16) (.inr (.inl rfl)) c x (Ba - 4 + 1)
  rw [if_neg (by decide), show (0 : Int) = ((0 : Nat) : Int) from rfl, g0 _ _ _ (by omega), g1 _ _ (by simp; omega)]
  refine Eq.trans (g2 _) ?_
  rw [Ad2, if_neg (by decide), if_pos rfl, List.append_assoc]
  show bk _ (acc ++ [u8 (c.toInt.fdiv 1), u8 (c.toInt.fdiv 256)]) = _
  rw [Int.fdiv_one, Int.fdiv_eq_ediv_of_nonneg _ (by omega)]
 ·have g1 := fun q acc ha => Awg bk l (bits := 24) (.inr (.inr rfl)) c x 1 q acc (by decide) ha
  have g2 := fun q acc ha => Awg bk l (bits := 24) (.inr (.inr rfl)) c x 2 q acc (by decide) ha
  have g3 := Bif bk l (bits := 24) (.inr (.inr rfl)) c x (Ba - 4)
  rw [if_neg (by decide), show (0 : Int) = ((0 : Nat) : Int) from rfl, g0 _ _ _ (by omega), g1 _ _ (by simp; omega), g2 _ _ (by simp; omega)]
  refine Eq.trans (g3 _) ?_
  rw [Ad2, if_neg (by decide), if_neg (by decide), List.append_assoc, List.append_assoc]
  show bk _ (acc ++ [u8 (c.toInt.fdiv 1), u8 (c.toInt.fdiv 256), u8 (c.toInt.fdiv 65536)]) = _
  rw [Int.fdiv_one, Int.fdiv_eq_ediv_of_nonneg _ (by omega), Int.fdiv_eq_ediv_of_nonneg _ (by omega)]
end
def bytesB (bits : Int) (l : List Int32) : List UInt8 := l.flatMap fun x => Ad2 bits x.toInt
theorem Anh (bits : Int) : ∀ l : List Int32, (bytesB bits l).length ≤ 3 * l.length
 | [] => by simp [bytesB]
 | x :: l => by
  have h1 := Anh bits l
  have h2 := Bgt bits x.toInt
  simp only [bytesB, List.flatMap_cons, List.length_append, List.length_cons] at *
  omega
def inR (bits : Int) (l : List Int32) : Prop := ∀ x ∈ l, -(hB bits) ≤ x.toInt ∧ x.toInt < hB bits
theorem Bk0 {bits : Int} (h : Dn bits) (l : List Int32) (hl : l.length ≤ 4000) (hr : inR bits l) : ∀ (j i q : Nat), i + j = l.length → j < q → Fl bits l q (i : Int) (bytesB bits (l.take i)) = some (bytesB bits l, 0)
 | 0, i, q + 1, hi, _ => by
  rw [Fl, Zl, if_neg (by rw [Af, Ac]; simp; omega), List.take_of_length_le (by omega)]; rfl
 | j + 1, i, q + 1, hi, hq => by
  have hlt : i < l.length := by omega
  have ih := Bk0 h l hl hr j (i + 1) q (by omega) (by omega)
  have hlen := Anh bits (l.take i)
  have hx := hr l[i] (List.getElem_mem _)
  have h1 := Bt3 (Fl bits l q) l h l[i] (i : Int) (bytesB bits (l.take i)) (by rw [List.length_take] at hlen; omega) hx
  rw [Fl, Zl, if_pos (by rw [Af, Ac]; simp; omega), Cq hlt, Aa]
  have e : (if (geq bits (8 : Int)) = true then Kg (Fl bits l q) bits l (i : Int) (bytesB bits (l.take i)) (Ae l[i] (128 : Int32)) else Kg (Fl bits l q) bits l (i : Int) (bytesB bits (l.take i)) l[i]) = Kg (Fl bits l q) bits l (i : Int) (bytesB bits (l.take i)) (if bits = 8 then Ae l[i] (128 : Int32) else l[i]) := by
   by_cases h8 : bits = 8
   ·rw [if_pos (by rw [Bg]; simpa using h8), if_pos h8]
   ·rw [if_neg (by rw [Bg]; simpa using h8), if_neg h8]
  rw [e, h1, Ag (by omega) (by omega)]
  rw [Ak4 hlt] at ih
  have e2 : bytesB bits (l.take i ++ [l[i]]) = bytesB bits (l.take i) ++ Ad2 bits l[i].toInt := by unfold bytesB; rw [List.flatMap_append, List.flatMap_singleton]
  rw [e2] at ih
  exact ih
theorem At3 {bits : Int} (h : Dn bits) {l : List Int32} (hl : l.length ≤ 4000) (hc : cadenzaref18_Check bits l = some 0) : inR bits l := by
 have hh := Aun bits
 have key : ∀ (j i q : Nat), i + j = l.length → j < q → Bv l (hB bits) q (i : Int) = some 0 → ∀ k, i ≤ k → (hk : k < l.length) → -(hB bits) ≤ l[k].toInt ∧ l[k].toInt < hB bits := by
  intro j
  induction j with
  | zero => intro i q hi hq _ k h1 h2; omega
  | succ j ih =>
   intro i q hi hq hs k h1 h2
   obtain ⟨q, rfl⟩ : ∃ k, q = k + 1 := ⟨q - 1, by omega⟩
   rw [Bv, Et, if_pos (by rw [Af, Ac]; simp; omega), Cq (by omega), Aa, Aa, Ff, Bh8, Cf (by omega) (by omega), Ag (by omega) (by omega), Af, Dz] at hs
   by_cases g1 : l[i].toInt < 0 - hB bits
   ·rw [if_pos (by simpa using g1)] at hs; simp at hs
   ·rw [if_neg (by simpa using g1)] at hs
    by_cases g2 : hB bits ≤ l[i].toInt
    ·rw [if_pos (by simpa using g2)] at hs; simp at hs
    ·rw [if_neg (by simpa using g2)] at hs
     by_cases hk : k = i
     ·subst hk; omega
     ·exact ih (i + 1) q (by omega) (by omega) hs k (by omega) h2
 rw [cadenzaref18_Check, Ii, Ay0 h, Aa, if_neg (by rw [Bg]; simp; omega), if_neg (by rw [Au, Ac]; simp; omega)] at hc
 have := key l.length 0 Ba (by omega) (by have := Ap; omega) hc
 intro x hx
 obtain ⟨k, hk, rfl⟩ := List.getElem_of_mem hx
 exact this k (by omega) hk
theorem Azx {bits : Int} (h : Dn bits) {l : List Int32} (hl : l.length ≤ 4000) (hc : cadenzaref18_Check bits l = some 0) : width_Bytes bits l = some (bytesB bits l, 0) := by
 have h1 := Bk0 h l hl (At3 h hl hc) l.length 0 Ba (by omega) (by have := Ap; omega)
 rw [width_Bytes, Ahp, Awv h l hl, hc, Aa, if_neg (by rw [Ah]; simp)]
 exact h1
theorem Bsu {bits : Int} (h : Dn bits) (x : Int32) (hr : -(hB bits) ≤ x.toInt ∧ x.toInt < hB bits) : Xq bits x = some (Ad2 bits x.toInt) := by
 have hx := Ac6 x
 have gu : ∀ z : Int, (Ad z : UInt8) = u8 z := fun z => rfl
 have hq : ∀ n : Int, 0 ≤ n → n ≤ 20000000 → Bs n (256 : Int) = n / 256 ∧ Bs n (65536 : Int) = n / 65536 := by
  intro n h1 h2
  constructor <;> (rw [Af8, Int.tdiv_eq_ediv_of_nonneg h1, Cf (by omega) (by omega)])
 have hm : ∀ n : Int, 0 ≤ n → Jd n (256 : Int) = n % 256 := fun n h1 => by rw [Jd, Int.tmod_eq_emod_of_nonneg h1]
 rw [Xq, Yd, Ff]
 obtain rfl | rfl | rfl := h
 ·rw [if_pos (by rw [Bg]; rfl), Ag (by omega) (by omega), gu, Ad2, if_pos rfl]
 ·have hh : hB 16 = 32768 := rfl
  rw [hh] at hr
  have hp : ∀ n : Int, 0 ≤ n → n ≤ 70000 → u8 n = u8 x.toInt → u8 (n / 256) = u8 (x.toInt / 256) → Ht 16 n = some (Ad2 16 x.toInt) := by
   intro n h1 h2 h3 h4
   rw [Ht, Yf, if_neg (by rw [Bg]; decide), hm n h1, (hq n h1 (by omega)).1, hm _ (by omega), gu, gu, Bd7, Bd7, h3, h4, Ad2, if_neg (by decide), if_pos rfl]
  rw [if_neg (by rw [Bg]; decide)]
  by_cases hn : x.toInt < 0
  ·rw [if_pos (by rw [Af]; simpa using hn), Ay0 (.inr (.inl rfl)), Aa, hh, Gt (by omega) (by omega), Ag (by omega) (by omega)]
   refine hp _ (by omega) (by omega) ?_ ?_
   ·rw [u8, u8]; congr 2; omega
   ·rw [u8, u8]; congr 2; omega
  ·rw [if_neg (by rw [Af]; simpa using hn)]
   exact hp _ (by omega) (by omega) rfl rfl
 ·have hh : hB 24 = 8388608 := rfl
  rw [hh] at hr
  have hp : ∀ n : Int, 0 ≤ n → n ≤ 16777215 → u8 n = u8 x.toInt → u8 (n / 256) = u8 (x.toInt / 256) → u8 (n / 65536) = u8 (x.toInt / 65536) → Ht 24 n = some (Ad2 24 x.toInt) := by
   intro n h1 h2 h3 h4 h5
   rw [Ht, Yf, if_pos (by rw [Bg]; rfl), hm n h1, (hq n h1 (by omega)).1, (hq n h1 (by omega)).2, hm _ (by omega), gu, gu, gu, Bd7, Bd7, h3, h4, h5, Dc (by simp), Aa, Ad2, if_neg (by decide), if_neg (by decide)]; rfl
  rw [if_neg (by rw [Bg]; decide)]
  by_cases hn : x.toInt < 0
  ·rw [if_pos (by rw [Af]; simpa using hn), Ay0 (.inr (.inr rfl)), Aa, hh, Gt (by omega) (by omega), Ag (by omega) (by omega)]
   refine hp _ (by omega) (by omega) ?_ ?_ ?_
   ·rw [u8, u8]; congr 2; omega
   ·rw [u8, u8]; congr 2; omega
   ·rw [u8, u8]; congr 2; omega
  ·rw [if_neg (by rw [Af]; simpa using hn)]
   exact hp _ (by omega) (by omega) rfl rfl rfl
theorem Bkx {bits : Int} (h : Dn bits) (l : List Int32) (hl : l.length ≤ 4000) (hr : inR bits l) : ∀ (j i q : Nat), i + j = l.length → j < q → Gd bits l q (i : Int) (bytesB bits (l.take i)) = some (bytesB bits l, 0)
 | 0, i, q + 1, hi, _ => by
  rw [Gd, Mn, if_neg (by rw [Af, Ac]; simp; omega), List.take_of_length_le (by omega)]; rfl
 | j + 1, i, q + 1, hi, hq => by
  have hlt : i < l.length := by omega
  have ih := Bkx h l hl hr j (i + 1) q (by omega) (by omega)
  have hlen := Anh bits (l.take i)
  have hol := Bgt bits l[i].toInt
  rw [List.length_take] at hlen
  have e2 : bytesB bits (l.take i ++ [l[i]]) = bytesB bits (l.take i) ++ Ad2 bits l[i].toInt := by unfold bytesB; rw [List.flatMap_append, List.flatMap_singleton]
  rw [Ak4 hlt, e2] at ih
  rw [Gd, Mn, if_pos (by rw [Af, Ac]; simp; omega), Cq hlt, Aa, Bsu h _ (hr l[i] (List.getElem_mem _)), Aa, Dc (by omega), Aa, Ag (by omega) (by omega)]
  exact ih
theorem Baz {bits : Int} (h : Dn bits) {l : List Int32} (hl : l.length ≤ 4000) (hc : cadenzaref18_Check bits l = some 0) : So bits l = some (bytesB bits l, 0) := by
 have h1 := Bkx h l hl (At3 h hl hc) l.length 0 Ba (by omega) (by have := Ap; omega)
 rw [So, Us, hc, Aa, if_neg (by rw [Ah]; simp)]
 exact h1
end Go.Pl
set_option linter.unusedVariables false
set_option linter.unusedSimpArgs false
namespace Go.Pl
open Go Go.Lv
def Alb : List UInt8 → Nat → Int × Int
 | [], n => ((n : Int), 0)
 | c :: r, n => if 128 ≤ c.toNat then (0, 12) else Alb r (128 * n + c.toNat)
theorem Bj9 : ∀ (l : List UInt8) (n k : Nat), n < 128 ^ k → 0 ≤ (Alb l n).1 ∧ (Alb l n).1 < ((128 ^ (k + l.length) : Nat) : Int)
 | [], n, k, h => by simp [Alb]; exact_mod_cast h
 | c :: r, n, k, h => by
  rw [Alb]
  split
  ·have : 0 < 128 ^ (k + (c :: r).length) := Nat.pow_pos (by omega)
   exact ⟨Int.le_refl _, by simp only; exact_mod_cast this⟩
  ·have := Bj9 r (128 * n + c.toNat) (k + 1) (by rw [Nat.pow_succ]; omega)
   rw [List.length_cons, show k + (r.length + 1) = k + 1 + r.length by omega]
   exact this
theorem or7 (n c : Nat) (hn : n < 268435456) (hc : c < 128) : gor (Eo (n : Int) (GI.toZ (7 : UInt64)).toNat) (c : Int) = ((128 * n + c : Nat) : Int) := by
 have e : (GI.toZ (7 : UInt64)).toNat = 7 := rfl
 have h1 : Eo (n : Int) 7 = ((2 ^ 7 * n : Nat) : Int) := by
  have : Eo (n : Int) 7 = wrap64 ((n : Int) * 2 ^ 7) := rfl
  rw [this, Cf (by omega) (by omega)]; omega
 rw [e, h1]
 have h2 : gor ((2 ^ 7 * n : Nat) : Int) (c : Int) = wrap64 ((BitVec.ofInt 64 ((2 ^ 7 * n : Nat) : Int) ||| BitVec.ofInt 64 (c : Int)).toNat : Int) := rfl
 rw [h2, BitVec.toNat_or, BitVec.toNat_ofInt, BitVec.toNat_ofInt]
 have h3 : (((2 ^ 7 * n : Nat) : Int) % ((2 ^ 64 : Nat) : Int)).toNat = 2 ^ 7 * n := by omega
 have h4 : ((c : Int) % ((2 ^ 64 : Nat) : Int)).toNat = c := by omega
 rw [h3, h4, ← Nat.two_pow_add_eq_or_of_lt (by simpa using hc), Cf (by omega) (by omega)]
theorem Bk4 (b : List UInt8) (hb : b.length = 4) : ∀ (j i q n : Nat), i + j = 4 → j < q → n < 128 ^ i → Lf b q (n : Int) (i : Int) = some (Alb (b.drop i) n)
 | 0, i, q + 1, n, hi, _, _ => by
  rw [Lf, Xo, if_neg (by rw [Af, Ac]; simp; omega), show b.drop i = [] by simp; omega]; rfl
 | j + 1, i, q + 1, n, hi, hq, hn => by
  have hlt : i < b.length := by omega
  have hn2 : n < 268435456 := Nat.lt_of_lt_of_le hn (show 128 ^ i ≤ 128 ^ 4 from Nat.pow_le_pow_right (by omega) (by omega))
  rw [Lf, Xo, if_pos (by rw [Af, Ac]; simp; omega), Cq hlt, Aa, drop_cons hlt, Alb, Bp1]
  by_cases hc : 128 ≤ b[i].toNat
  ·rw [if_pos (by simp; omega), if_pos hc]
  ·rw [if_neg (by simp; omega), if_neg hc, Aeo, or7 n _ hn2 (by omega), Ag (by omega) (by omega)]
   exact Bk4 b hb j (i + 1) q _ (by omega) (by omega) (by rw [Nat.pow_succ]; omega)
theorem Bql (b : List UInt8) (hb : b.length = 4) : ∀ (j i q n : Nat), i + j = 4 → j < q → n < 128 ^ i → Gi b q (n : Int) (i : Int) = some (Alb (b.drop i) n)
 | 0, i, q + 1, n, hi, _, _ => by
  rw [Gi, Me, if_neg (by rw [Af]; simp; omega), show b.drop i = [] by simp; omega]; rfl
 | j + 1, i, q + 1, n, hi, hq, hn => by
  have hlt : i < b.length := by omega
  have hn2 : n < 268435456 := Nat.lt_of_lt_of_le hn (show 128 ^ i ≤ 128 ^ 4 from Nat.pow_le_pow_right (by omega) (by omega))
  rw [Gi, Me, if_pos (by rw [Af]; simp; omega), Cq hlt, Aa, drop_cons hlt, Alb, Bps]
  have h128 : (128 : UInt8).toNat = 128 := rfl
  by_cases hc : 128 ≤ b[i].toNat
  ·rw [if_pos (by simpa using hc), if_pos hc]
  ·have h3 := b[i].toNat_lt
   rw [if_neg (by simpa using hc), if_neg hc, Aa, Aeo, Gt (by omega) (by omega), Ag (by omega) (by omega), Ag (by omega) (by omega)]
   have := Bql b hb j (i + 1) q (128 * n + b[i].toNat) (by omega) (by omega) (by rw [Nat.pow_succ]; omega)
   rw [← this]; rfl
theorem Bic (b : List UInt8) (hb : b.length = 4) : Aev b = some (Alb b 0) := by
 have h := Bk4 b hb 4 0 Ba 0 (by omega) (by have := Ap; omega) (by simp)
 rw [Aev, Aee, if_neg (by rw [Ah, Ac]; simp; omega), Ad6]; exact h
theorem Blo (b : List UInt8) (hb : b.length = 4) : Rp b = some (Alb b 0) := by
 have h := Bql b hb 4 0 Ba 0 (by omega) (by have := Ap; omega) (by simp)
 rw [Rp, Uz, if_neg (by rw [Ah, Ac]; simp; omega), Ut]; exact h
theorem Bi6 {b : List UInt8} (hb : b.length = 4) : 0 ≤ (Alb b 0).1 ∧ (Alb b 0).1 < 268435456 := by
 have := Bj9 b 0 0 (by simp)
 rw [hb] at this
 simpa using this
theorem Am3 (s p : List UInt8) : Ke s p = some (decide (p.length ≤ s.length ∧ s.take p.length = p)) := by
 rw [Ke]
 by_cases h : p.length ≤ s.length
 ·rw [if_pos (by rw [Dz, Ac, Ac]; simp; omega), show Ac p = (p.length : Int) from rfl, Kt (by omega) (by omega), Aa, Gx, Aa, Int.toNat_natCast]
  congr 1
  rw [Bool.eq_iff_iff]; simp [h]
 ·rw [if_neg (by rw [Dz, Ac, Ac]; simp; omega)]
  simp [h]
def Arc (b : List UInt8) (n : Int) : Int × Int :=
 if 4000 < n then (0, 4) else if (b.length : Int) < n then (0, 24) else
 if b.getD 5 0 = 16 ∧ (b.take n.toNat).drop (n - 10).toNat ≠ [51, 68, 73] ++ part b 3 7 then (0, 12) else (n, 0)
def Bbc (b : List UInt8) (r : Int) : Int × Int := Arc b (r + 10 + (if b.getD 5 0 = 16 then 10 else 0))
def An0 (b : List UInt8) : Int × Int :=
 if ¬ (3 ≤ b.length ∧ b.take 3 = [73, 68, 51]) then (0, 6) else if b.length < 10 then (0, 24) else
 if (Alb (part b 6 4) 0).2 ≠ 0 ∨ b.getD 4 0 ≠ 0 ∨ ¬ ((b.getD 5 0 = 0 ∧ 2 ≤ (b.getD 3 0).toNat ∧ (b.getD 3 0).toNat ≤ 4) ∨ (b.getD 5 0 = 16 ∧ b.getD 3 0 = 4)) then (0, 12) else
 Bbc b (Alb (part b 6 4) 0).1
theorem Ars {b : List UInt8} {i : Nat} (h : i < b.length) : getI b (i : Int) = some (b.getD i 0) := by
 rw [Cq h]; simp [List.getD_eq_getElem?_getD, h]
theorem Nq {b : List UInt8} (a w : Nat) (h : a + w ≤ b.length) : Ce b (a : Int) ((a + w : Nat) : Int) = some (part b a w) := by
 rw [Uj (by omega) (by omega) (by omega)]; rfl
theorem Bsf (b : List UInt8) (r : Int) (h10 : 10 ≤ b.length) (h0 : 0 ≤ r) (h1 : r < 268435456) : Ns b r = some (Bbc b r) := by
 have g5 : getI b (5 : Int) = some (b.getD 5 0) := Ars (i := 5) (by omega)
 have key : ∀ n : Int, 10 ≤ n → n < 268435500 → Oe b n = some (Arc b n) := by
  intro n hn hn2
  rw [Oe, Ae8, Arc]
  by_cases c1 : 4000 < n
  ·rw [if_pos (by rw [Au]; simpa using c1), if_pos c1]
  ·rw [if_neg (by rw [Au]; simpa using c1), if_neg c1]
   by_cases c2 : (b.length : Int) < n
   ·rw [if_pos (by rw [Af, Ac]; simpa using c2), if_pos c2]
   ·have e3 : Ce b (3 : Int) (10 : Int) = some (part b 3 7) := Nq 3 7 (by omega)
    rw [if_neg (by rw [Af, Ac]; simpa using c2), if_neg c2, g5, Aa]
    by_cases c3 : b.getD 5 0 = 16
    ·rw [if_pos (by rw [Ank]; simpa using c3), Bk (by omega) (by omega), Uj (by omega) (by omega) (by omega), Aa, e3, Aa, Dc (by rw [Ds (by omega)]; simp), Aa]
     by_cases c4 : (b.take n.toNat).drop (n - 10).toNat = [51, 68, 73] ++ part b 3 7
     ·rw [if_neg (by simpa using c4), if_neg (by intro h; exact h.2 c4)]
     ·rw [if_pos (by simpa using c4), if_pos ⟨c3, c4⟩]
    ·rw [if_neg (by rw [Ank]; simpa using c3), if_neg (fun h => c3 h.1)]
 rw [Ns, Ws, g5, Aa, Bbc]
 by_cases c3 : b.getD 5 0 = 16
 ·rw [if_pos (by rw [Ank]; simpa using c3), Ag (by rw [Ag] <;> omega) (by rw [Ag] <;> omega), Ag (by omega) (by omega), key _ (by omega) (by omega), if_pos c3, show 10 + r + 10 = r + 10 + 10 by omega]
 ·rw [if_neg (by rw [Ank]; simpa using c3), Ag (by omega) (by omega), key _ (by omega) (by omega), if_neg c3, show 10 + r = r + 10 + 0 by omega]
theorem Bqf (b : List UInt8) (hb : b.length < 4611686018427387904) : Vc b = some (An0 b) := by
 rw [Vc, Wo, An0]
 by_cases h3 : 3 ≤ b.length
 ·rw [if_neg (by rw [Af, Ac]; simp; omega), Kt (by omega) (by omega), Aa]
  by_cases hp : b.take 3 = [73, 68, 51]
  ·rw [if_neg (by simpa using hp), if_neg (by simp [h3, hp]), Xi, Wu]
   by_cases h10 : b.length < 10
   ·rw [if_pos (by rw [Af, Ac]; simp; omega), if_pos h10]
   ·have e6 : Ce b (6 : Int) (10 : Int) = some (part b 6 4) := Nq 6 4 (by omega)
    have g3 : getI b (3 : Int) = some (b.getD 3 0) := Ars (i := 3) (by omega)
    have g4 : getI b (4 : Int) = some (b.getD 4 0) := Ars (i := 4) (by omega)
    have g5 : getI b (5 : Int) = some (b.getD 5 0) := Ars (i := 5) (by omega)
    obtain ⟨v1, v2⟩ := Bi6 (b := part b 6 4) (Ds (by omega))
    rw [if_neg (by rw [Af, Ac]; simp; omega), if_neg h10, e6, Aa, Blo _ (Ds (by omega)), Aa]
    have ht := Bsf b (Alb (part b 6 4) 0).1 (by omega) v1 v2
    generalize Alb (part b 6 4) 0 = v at *
    obtain ⟨v, e⟩ := v
    simp only at ht v1 v2 ⊢
    simp only [Aa, g3, g4, g5, ht]
    generalize b.getD 3 0 = x at *
    generalize b.getD 4 0 = y at *
    generalize b.getD 5 0 = z at *
    simp only [Biq, Bu3, Bp1, Ah]
    by_cases he : e = 0 <;> by_cases hy : y = 0 <;> by_cases hz : z = 0 <;> by_cases hz2 : z = 16 <;> by_cases hx : x = 4 <;> by_cases hx2 : x.toNat < 2 <;> by_cases hx4 : 4 < x.toNat <;> simp_all <;> (rw [if_neg (by omega), if_neg (by omega)])
  ·rw [if_pos (by simpa using hp), if_pos (by simp [hp])]
 ·rw [if_pos (by rw [Af, Ac]; simp; omega), if_pos (by simp [h3])]
theorem Bal (b : List UInt8) (n : Int) (h10 : 10 ≤ b.length) (hn : 10 ≤ n) (hn2 : n < 268435500) : Zp b (b.getD 5 0) n = some (Arc b n) := by
 rw [Zp, Anr]
 by_cases c1 : 4000 < n
 ·rw [if_pos (by rw [Au]; simpa using c1), Arc, if_pos c1]
 ·rw [if_neg (by rw [Au]; simpa using c1)]
  by_cases c2 : (b.length : Int) < n
  ·rw [if_pos (by rw [Af, Ac]; simpa using c2), Arc, if_neg c1, if_pos c2]
  ·have e3 : Ce b (3 : Int) (10 : Int) = some (part b 3 7) := Nq 3 7 (by omega)
   rw [if_neg (by rw [Af, Ac]; simpa using c2)]
   by_cases c3 : b.getD 5 0 = 16
   ·have hl : ((b.take n.toNat).drop (n - 10).toNat).length = 10 := by simp; omega
    have ht : Arc b n = if (b.take n.toNat).drop (n - 10).toNat ≠ [51, 68, 73] ++ part b 3 7 then (0, 12) else (n, 0) := by rw [Arc, if_neg c1, if_neg c2]; simp only [c3, true_and]
    rw [if_pos (by rw [Ank]; simpa using c3), Bk (by omega) (by omega), Uj (by omega) (by omega) (by omega), Aa, ht]
    generalize (b.take n.toNat).drop (n - 10).toNat = f at *
    rw [Kt (by omega) (by omega), Aa, Ng (by omega) (by omega), Aa, e3, Aa, Gx, Aa]
    have hf : f = f.take 3 ++ f.drop 3 := (List.take_append_drop 3 f).symm
    by_cases c4 : f = [51, 68, 73] ++ part b 3 7
    ·subst c4
     simp
    ·by_cases c5 : f.take 3 = [51, 68, 73]
     ·have : f.drop 3 ≠ part b 3 7 := fun h => c4 (by rw [hf, c5, h])
      simp only [List.cons_append, List.nil_append] at c4
      simp [c4, c5, this]
     ·simp only [List.cons_append, List.nil_append] at c4
      simp [c4, c5]
   ·rw [if_neg (by rw [Ank]; simpa using c3), Arc, if_neg c1, if_neg c2, if_neg (fun h => c3 h.1)]
theorem Bp9 (b : List UInt8) (r : Int) (h10 : 10 ≤ b.length) (h0 : 0 ≤ r) (h1 : r < 268435456) : Zn b r (b.getD 5 0) = some (Bbc b r) := by
 rw [Zn, Agf, Bbc]
 by_cases c3 : b.getD 5 0 = 16
 ·rw [if_pos (by rw [Ank]; simpa using c3), Ag (by rw [Ag] <;> omega) (by rw [Ag] <;> omega), Ag (by omega) (by omega), Bal b _ h10 (by omega) (by omega), if_pos c3]
 ·rw [if_neg (by rw [Ank]; simpa using c3), Ag (by omega) (by omega), Bal b _ h10 (by omega) (by omega), if_neg c3]; simp
theorem Bm3 (b : List UInt8) (hb : b.length < 4611686018427387904) : Ahb b = some (An0 b) := by
 rw [Ahb, Zo, Am3, Aa]
 by_cases hp : 3 ≤ b.length ∧ b.take 3 = [73, 68, 51]
 ·rw [if_neg (by simpa using hp)]
  by_cases h10 : b.length < 10
  ·rw [if_pos (by rw [Af, Ac]; simp; omega), An0, if_neg (fun h => h hp), if_pos h10]
  ·have e6 : Ce b (6 : Int) (10 : Int) = some (part b 6 4) := Nq 6 4 (by omega)
   have g3 : getI b (3 : Int) = some (b.getD 3 0) := Ars (i := 3) (by omega)
   have g4 : getI b (4 : Int) = some (b.getD 4 0) := Ars (i := 4) (by omega)
   have g5 : getI b (5 : Int) = some (b.getD 5 0) := Ars (i := 5) (by omega)
   obtain ⟨v1, v2⟩ := Bi6 (b := part b 6 4) (Ds (by omega))
   have ht := Bp9 b (Alb (part b 6 4) 0).1 (by omega) v1 v2
   rw [if_neg (by rw [Af, Ac]; simp; omega), g3, Aa, g5, Aa, Agq, Af6, e6, Aa, Bic _ (Ds (by omega)), Aa, An0, if_neg (fun h => h hp), if_neg h10]
   generalize Alb (part b 6 4) 0 = v at *
   obtain ⟨v, e⟩ := v
   simp only at ht v1 v2 ⊢
   simp only [Aa, g4, Agn, Af7]
   generalize b.getD 3 0 = x at *
   generalize b.getD 4 0 = y at *
   generalize b.getD 5 0 = z at *
   simp only [Biq, Bu0, Ank, Bps, Ah]
   have e2 : (2 : UInt8).toNat = 2 := rfl
   have e4 : (4 : UInt8).toNat = 4 := rfl
   by_cases he : e = 0 <;> by_cases hy : y = 0 <;> by_cases hz : z = 0 <;> by_cases hz2 : z = 16 <;> by_cases hx : x = 4 <;> by_cases hx2 : 2 ≤ x.toNat <;> by_cases hx4 : x.toNat ≤ 4 <;> simp_all
 ·rw [if_pos (by rw [Bool.not_eq_true', decide_eq_false_iff_not]; exact hp), An0, if_pos hp]
theorem Bnh {b : List UInt8} {n : Int} (h : An0 b = (n, 0)) : 10 ≤ n ∧ n ≤ b.length ∧ n ≤ 4000 := by
 unfold An0 at h
 split at h; · simp at h
 split at h; · simp at h
 split at h; · simp at h
 rename_i h10 _
 obtain ⟨v1, v2⟩ := Bi6 (b := part b 6 4) (Ds (by omega))
 unfold Bbc at h
 generalize hm : (Alb (part b 6 4) 0).1 + 10 + (if b.getD 5 0 = 16 then 10 else 0) = m at h
 unfold Arc at h
 split at h; · simp at h
 split at h; · simp at h
 split at h; · simp at h
 simp only [Prod.mk.injEq, and_true] at h
 subst h
 refine ⟨?_, by omega, by omega⟩
 rw [← hm]
 split <;> omega
end Go.Pl
set_option linter.unusedVariables false
set_option linter.unusedSimpArgs false
namespace Go.Pl
open Go Go.Lv
def APE : List UInt8 := [65, 80, 69, 84, 65, 71, 69, 88]
def My (n m fl : Nat) : List UInt8 := APE ++ leB 2000 4 ++ leB (n + 32) 4 ++ leB m 4 ++ leB fl 4 ++ List.replicate 8 0
theorem Aju {n : Nat} (h : n < 18446744073709551616) : (UInt64.ofNat n).toNat = n := by rw [UInt64.toNat_ofNat', Nat.mod_eq_of_lt h]
theorem Aqd (n m : Int) (fl : UInt64) (c : UInt64) (i q : Nat) (acc : List UInt8) (hi : i < 6) (hc : getI ([(2000 : UInt64), (Ad (Ae n (32 : Int)) : UInt64), (Ad m : UInt64), fl, (0 : UInt64), (0 : UInt64)] : List UInt64) (i : Int) = some c) (h : c.toNat < 4294967296) (ha : acc.length ≤ 1000000) :
  Aae n m fl (q + 1) (i : Int) acc = Aae n m fl q ((i + 1 : Nat) : Int) (acc ++ leB c.toNat 4) := by
 have hb := Bfe c 4 (by omega) (by omega) (by simpa using h)
 rw [Aae, Am8, if_pos (by rw [Af, Ac]; simp; omega), hc, Aa, Aa, show ((4 : Int)) = ((4 : Nat) : Int) from rfl, hb, Aa]
 simp only
 rw [Dc (by rw [Nh]; omega), Aa, Ag (by omega) (by omega)]; rfl
theorem Az0 (n m : Nat) (fl : UInt64) (hn : n ≤ 3000) (hm : m ≤ 1000) (hf : fl.toNat < 4294967296) : Ap5 (n : Int) (m : Int) fl = some (My n m fl.toNat) := by
 have e1 : (Ad (Ae (n : Int) (32 : Int)) : UInt64).toNat = n + 32 := by rw [Ag (by omega) (by omega), show (n : Int) + 32 = ((n + 32 : Nat) : Int) by omega, Aay, Aju (by omega)]
 have e2 : (Ad (m : Int) : UInt64).toNat = m := by rw [Aay, Aju (by omega)]
 have hF : Ba = (Ba - 7) + 1 + 1 + 1 + 1 + 1 + 1 + 1 := by have := Ap; omega
 rw [Ap5, Ar4, Ar1, hF]
 rw [show ((0 : Int)) = ((0 : Nat) : Int) from rfl, Aqd n m fl 2000 0 _ _ (by omega) rfl (by decide) (by simp), Aqd n m fl _ 1 _ _ (by omega) rfl (by rw [e1]; omega) (by simp [Nh]), Aqd n m fl _ 2 _ _ (by omega) rfl (by rw [e2]; omega) (by simp [Nh]),
  Aqd n m fl fl 3 _ _ (by omega) rfl hf (by simp [Nh]), Aqd n m fl 0 4 _ _ (by omega) rfl (by decide) (by simp [Nh]), Aqd n m fl 0 5 _ _ (by omega) rfl (by decide) (by simp [Nh]), e1, e2]
 rw [Aae, Am8, if_neg (by rw [Af, Ac]; simp), Ar2, Axd, My]
 have z : leB (0 : UInt64).toNat 4 ++ leB (0 : UInt64).toNat 4 = List.replicate 8 0 := by decide
 have z2 : leB (2000 : UInt64).toNat 4 = leB 2000 4 := rfl
 rw [List.append_assoc _ (leB (0 : UInt64).toNat 4), z, z2]; rfl
theorem Asy (n m : Nat) (fl : UInt64) (hn : n ≤ 3000) (hm : m ≤ 1000) (hf : fl.toNat < 4294967296) : Lh (n : Int) (m : Int) fl = some (My n m fl.toNat) := by
 have e1 : (Ad (Ae (n : Int) (32 : Int)) : UInt64).toNat = n + 32 := by rw [Ag (by omega) (by omega), show (n : Int) + 32 = ((n + 32 : Nat) : Int) by omega, Aay, Aju (by omega)]
 have e2 : (Ad (m : Int) : UInt64).toNat = m := by rw [Aay, Aju (by omega)]
 have w : ∀ c : UInt64, Dl c 4 = some (leB c.toNat 4) := fun c => Ay3 c 4 (by omega)
 have z2 : leB (2000 : UInt64).toNat 4 = leB 2000 4 := rfl
 rw [Lh]
 simp only [w, e1, e2, Aa]
 rw [Dc (by simp [Nh]), Aa, Dc (by simp [Nh]), Aa, Dc (by simp [Nh]), Aa, Dc (by simp [Nh]), Aa, Asv (by omega) (by omega), Aa, Dc (by simp [Nh]), Aa, z2]; rfl
theorem Ahn {b : List UInt8} {a w k : Nat} (h : a + w ≤ k) : part (b.take k) a w = part b a w := by rw [part, part, List.take_take, Nat.min_eq_left h]
def Ae4 (b : List UInt8) : Bool := decide (Es (part b 12 4) < 32 ∨ 3032 < Es (part b 12 4) ∨ 1000 < Es (part b 16 4))
theorem Bog (b : List UInt8) (h : 20 ≤ b.length) : (((Dh (leU (part b 12 4)) (32 : UInt64)) || (Hh (leU (part b 12 4)) (3032 : UInt64))) || (Hh (leU (part b 16 4)) (1000 : UInt64))) = Ae4 b := by
 rw [Awt, Ajo, Ajo, Ajw (by rw [Ds (by omega)]; omega), Ajw (by rw [Ds (by omega)]; omega), Ae4]
 show ((decide (Es (part b 12 4) < 32) || decide (3032 < Es (part b 12 4))) || decide (1000 < Es (part b 16 4))) = _
 simp [Bool.or_assoc]
theorem Atv (b : List UInt8) (h : 20 ≤ b.length) (hb : Ae4 b = false) : Am (Ad (leU (part b 12 4)) : Int) (32 : Int) = ((Es (part b 12 4) - 32 : Nat) : Int) ∧ (Ad (leU (part b 16 4)) : Int) = ((Es (part b 16 4) : Nat) : Int) ∧ Es (part b 12 4) - 32 ≤ 3000 ∧ Es (part b 16 4) ≤ 1000 := by
 simp only [Ae4, decide_eq_false_iff_not] at hb
 refine ⟨?_, Aeu (by rw [Ds (by omega)]; omega), by omega, by omega⟩
 rw [Aeu (by rw [Ds (by omega)]; omega), Bk (by omega) (by omega)]; omega
theorem Ana (b : List UInt8) (fl : UInt64) (h : 20 ≤ b.length) (hl : b.length < 4611686018427387904) (hf : fl.toNat < 4294967296) :
  Aho b fl = some (if Ae4 b = true then (0, 0, false) else (((Es (part b 12 4) - 32 : Nat) : Int), ((Es (part b 16 4) : Nat) : Int), b == My (Es (part b 12 4) - 32) (Es (part b 16 4)) fl.toNat)) := by
 have a1 : Alh b 12 4 = some (leU (part b 12 4), 0) := Bb7 b 12 4 (by omega) (by omega) (by omega) hl
 have a2 : Alh b 16 4 = some (leU (part b 16 4), 0) := Bb7 b 16 4 (by omega) (by omega) (by omega) hl
 rw [Aho, a1, Aa]
 simp only
 rw [a2, Aa]
 simp only
 rw [Bog b h]
 cases hb : Ae4 b with
 | true => rfl
 | false =>
  obtain ⟨i1, i2, i3, i4⟩ := Atv b h hb
  rw [i1, i2, Az0 _ _ _ i3 i4 hf]
  rfl
theorem Bek (b : List UInt8) (h : 20 ≤ b.length) (hl : b.length < 4611686018427387904) :
  Jp b = some (if Ae4 b = true then (0, 0, false) else (((Es (part b 12 4) - 32 : Nat) : Int), ((Es (part b 16 4) : Nat) : Int), true)) := by
 have a1 : Ce b 12 16 = some (part b 12 4) := Nq 12 4 (by omega)
 have a2 : Ce b 16 20 = some (part b 16 4) := Nq 16 4 (by omega)
 rw [Jp, a1, Aa, Bf5 _ (by rw [Ds (by omega)]; omega), Aa, a2, Aa, Bf5 _ (by rw [Ds (by omega)]; omega), Aa, Bog b h]
 cases hb : Ae4 b with
 | true => rfl
 | false =>
  obtain ⟨i1, i2, i3, i4⟩ := Atv b h hb
  rw [i1, i2]; rfl
def Sd (b : List UInt8) : Int × Int :=
 if ¬ (8 ≤ b.length ∧ b.take 8 = APE) then (0, 6) else if b.length < 32 then (0, 24) else
 if Ae4 b = true ∨ b.take 32 ≠ My (Es (part b 12 4) - 32) (Es (part b 16 4)) 2684354560 then (0, 12) else
 if b.length < Es (part b 12 4) + 32 then (0, 24) else
 if (b.take (Es (part b 12 4) + 32)).drop (Es (part b 12 4)) ≠ My (Es (part b 12 4) - 32) (Es (part b 16 4)) 2147483648 then (0, 12) else (((Es (part b 12 4) + 32 : Nat) : Int), 0)
theorem Bfs (b : List UInt8) : Ae4 (b.take 32) = Ae4 b := by rw [Ae4, Ae4, Ahn (by omega), Ahn (by omega)]
section
variable {b : List UInt8}
theorem fa1 (h : ¬ (8 ≤ b.length ∧ b.take 8 = APE)) : Sd b = (0, 6) := by rw [Sd, if_pos h]
theorem fa2 (h : 8 ≤ b.length ∧ b.take 8 = APE) (h2 : b.length < 32) : Sd b = (0, 24) := by rw [Sd, if_neg (fun h' => h' h), if_pos h2]
variable (h : 8 ≤ b.length ∧ b.take 8 = APE) (h2 : ¬ b.length < 32)
include h h2
theorem fa3 (h3 : Ae4 b = true) : Sd b = (0, 12) := by rw [Sd, if_neg (fun h' => h' h), if_neg h2, if_pos (.inl h3)]
theorem fa4 (h4 : b.take 32 ≠ My (Es (part b 12 4) - 32) (Es (part b 16 4)) 2684354560) : Sd b = (0, 12) := by rw [Sd, if_neg (fun h' => h' h), if_neg h2, if_pos (.inr h4)]
variable (h3 : Ae4 b = false) (h4 : b.take 32 = My (Es (part b 12 4) - 32) (Es (part b 16 4)) 2684354560)
include h3 h4
theorem fa5 (h5 : b.length < Es (part b 12 4) + 32) : Sd b = (0, 24) := by
 rw [Sd, if_neg (fun h' => h' h), if_neg h2, if_neg (fun h' => h'.elim (fun e => by rw [h3] at e; cases e) fun e => e h4), if_pos h5]
theorem fa6 (h5 : ¬ b.length < Es (part b 12 4) + 32) (h6 : (b.take (Es (part b 12 4) + 32)).drop (Es (part b 12 4)) ≠ My (Es (part b 12 4) - 32) (Es (part b 16 4)) 2147483648) : Sd b = (0, 12) := by
 rw [Sd, if_neg (fun h' => h' h), if_neg h2, if_neg (fun h' => h'.elim (fun e => by rw [h3] at e; cases e) fun e => e h4), if_neg h5, if_pos h6]
theorem fa7 (h5 : ¬ b.length < Es (part b 12 4) + 32) (h6 : (b.take (Es (part b 12 4) + 32)).drop (Es (part b 12 4)) = My (Es (part b 12 4) - 32) (Es (part b 16 4)) 2147483648) : Sd b = (((Es (part b 12 4) + 32 : Nat) : Int), 0) := by
 rw [Sd, if_neg (fun h' => h' h), if_neg h2, if_neg (fun h' => h'.elim (fun e => by rw [h3] at e; cases e) fun e => e h4), if_neg h5, if_neg (fun h' => h' h6)]
end
theorem Big (b : List UInt8) (hl : b.length < 4611686018427387904) : Aqq b = some (Sd b) := by
 rw [Aqq, Am3, Aa]
 by_cases hp : 8 ≤ b.length ∧ b.take 8 = APE
 ·rw [if_neg (by simpa [APE] using hp)]
  by_cases h32 : b.length < 32
  ·rw [if_pos (by rw [Af, Ac]; simp; omega), fa2 hp h32]
  ·have t := Ana (b.take 32) 2684354560 (by simp; omega) (by simp; omega) (by decide)
   rw [Bfs, Ahn (by omega), Ahn (by omega)] at t
   rw [if_neg (by rw [Af, Ac]; simp; omega), Kt (by omega) (by omega), Aa, show (32 : Int).toNat = 32 from rfl, t, Aa]
   cases hb : Ae4 b with
   | true => rw [fa3 hp h32 hb]; simp
   | false =>
    obtain ⟨i1, i2, i3, i4⟩ := Atv b (by omega) hb
    have i5 : 32 ≤ Es (part b 12 4) := by simp only [Ae4, decide_eq_false_iff_not] at hb; omega
    simp only [Bool.false_eq_true, if_false, false_or]
    by_cases c1 : b.take 32 = My (Es (part b 12 4) - 32) (Es (part b 16 4)) 2684354560
    ·have c1' : b.take 32 = My (Es (part b 12 4) - 32) (Es (part b 16 4)) (2684354560 : UInt64).toNat := c1
     rw [if_neg (by simpa using c1'), Ag (by omega) (by omega)]
     have e1 : ((Es (part b 12 4) - 32 : Nat) : Int) + 64 = ((Es (part b 12 4) + 32 : Nat) : Int) := by omega
     rw [e1]
     by_cases c2 : b.length < Es (part b 12 4) + 32
     ·rw [if_pos (by rw [Af, Ac]; simp; omega), fa5 hp h32 hb c1 c2]
     ·rw [if_neg (by rw [Af, Ac]; simp; omega), Bk (by omega) (by omega), Uj (by omega) (by omega) (by omega), Aa, Az0 _ _ _ i3 i4 (by decide), Aa, Gx, Aa]
      rw [show (((Es (part b 12 4) + 32 : Nat) : Int)).toNat = Es (part b 12 4) + 32 by omega, show (((Es (part b 12 4) + 32 : Nat) : Int) - 32).toNat = Es (part b 12 4) by omega]
      by_cases c3 : (b.take (Es (part b 12 4) + 32)).drop (Es (part b 12 4)) = My (Es (part b 12 4) - 32) (Es (part b 16 4)) 2147483648
      ·have c3' : (b.take (Es (part b 12 4) + 32)).drop (Es (part b 12 4)) = My (Es (part b 12 4) - 32) (Es (part b 16 4)) (2147483648 : UInt64).toNat := c3
       rw [if_neg (by simpa using c3'), fa7 hp h32 hb c1 c2 c3]
      ·have c3' : ¬ (b.take (Es (part b 12 4) + 32)).drop (Es (part b 12 4)) = My (Es (part b 12 4) - 32) (Es (part b 16 4)) (2147483648 : UInt64).toNat := c3
       rw [if_pos (by simpa using c3'), fa6 hp h32 hb c1 c2 c3]
    ·have c1' : ¬ b.take 32 = My (Es (part b 12 4) - 32) (Es (part b 16 4)) (2684354560 : UInt64).toNat := c1
     rw [if_pos (by simpa using c1'), fa4 hp h32 c1]
 ·rw [if_pos (by rw [Bool.not_eq_true', decide_eq_false_iff_not]; exact hp), fa1 hp]
theorem Bmo (b : List UInt8) (hl : b.length < 4611686018427387904) : Rt b = some (Sd b) := by
 rw [Rt, Uo]
 by_cases h8 : 8 ≤ b.length
 ·rw [if_neg (by rw [Af, Ac]; simp; omega), Kt (by omega) (by omega), Aa, show (8 : Int).toNat = 8 from rfl]
  by_cases ha : b.take 8 = APE
  ·have hp := And.intro h8 ha
   rw [if_neg (by simpa [APE] using ha), Ud, Ue]
   by_cases h32 : b.length < 32
   ·rw [if_pos (by rw [Af, Ac]; simp; omega), fa2 hp h32]
   ·have t := Bek (b.take 32) (by simp; omega) (by simp; omega)
    rw [Bfs, Ahn (by omega), Ahn (by omega)] at t
    rw [if_neg (by rw [Af, Ac]; simp; omega), Kt (by omega) (by omega), Aa, show (32 : Int).toNat = 32 from rfl, t, Aa]
    cases hb : Ae4 b with
    | true => rw [fa3 hp h32 hb]; simp
    | false =>
     obtain ⟨i1, i2, i3, i4⟩ := Atv b (by omega) hb
     have i5 : 32 ≤ Es (part b 12 4) := by simp only [Ae4, decide_eq_false_iff_not] at hb; omega
     simp only [Bool.false_eq_true, if_false, false_or, Aa, Bool.not_true]
     rw [Oj, Asy _ _ _ i3 i4 (by decide), Aa, Aa]
     by_cases c1 : b.take 32 = My (Es (part b 12 4) - 32) (Es (part b 16 4)) 2684354560
     ·have c1' : b.take 32 = My (Es (part b 12 4) - 32) (Es (part b 16 4)) (2684354560 : UInt64).toNat := c1
      rw [if_neg (by simpa using c1'), Ur, Adw, Ag (by omega) (by omega)]
      have e1 : 64 + ((Es (part b 12 4) - 32 : Nat) : Int) = ((Es (part b 12 4) + 32 : Nat) : Int) := by omega
      rw [e1]
      by_cases c2 : b.length < Es (part b 12 4) + 32
      ·rw [if_pos (by rw [Af, Ac]; simp; omega), fa5 hp h32 hb c1 c2]
      ·rw [if_neg (by rw [Af, Ac]; simp; omega), Bk (by omega) (by omega), Uj (by omega) (by omega) (by omega), Aa, Eb, if_pos rfl, Asy _ _ _ i3 i4 (by decide), Aa, Aa]
       rw [show (((Es (part b 12 4) + 32 : Nat) : Int)).toNat = Es (part b 12 4) + 32 by omega, show (((Es (part b 12 4) + 32 : Nat) : Int) - 32).toNat = Es (part b 12 4) by omega]
       by_cases c3 : (b.take (Es (part b 12 4) + 32)).drop (Es (part b 12 4)) = My (Es (part b 12 4) - 32) (Es (part b 16 4)) 2147483648
       ·have c3' : (b.take (Es (part b 12 4) + 32)).drop (Es (part b 12 4)) = My (Es (part b 12 4) - 32) (Es (part b 16 4)) (2147483648 : UInt64).toNat := c3
        rw [if_neg (by simpa using c3'), fa7 hp h32 hb c1 c2 c3]
       ·have c3' : ¬ (b.take (Es (part b 12 4) + 32)).drop (Es (part b 12 4)) = My (Es (part b 12 4) - 32) (Es (part b 16 4)) (2147483648 : UInt64).toNat := c3
        rw [if_pos (by simpa using c3'), fa6 hp h32 hb c1 c2 c3]
     ·have c1' : ¬ b.take 32 = My (Es (part b 12 4) - 32) (Es (part b 16 4)) (2684354560 : UInt64).toNat := c1
      rw [if_pos (by simpa using c1'), fa4 hp h32 c1]
  ·rw [if_pos (by simpa [APE] using ha), fa1 (fun h => ha h.2)]
 ·rw [if_pos (by rw [Af, Ac]; simp; omega), fa1 (fun h => h8 h.1)]
theorem Bmb {b : List UInt8} {n : Int} (h : Sd b = (n, 0)) : 64 ≤ n ∧ n ≤ b.length := by
 unfold Sd at h
 split at h; · simp at h
 split at h; · simp at h
 split at h; · simp at h
 rename_i hb
 split at h; · simp at h
 split at h; · simp at h
 simp only [Prod.mk.injEq, and_true] at h
 have hb' : ¬ Ae4 b = true := fun e => hb (.inl e)
 simp only [Ae4, decide_eq_true_eq] at hb'
 omega
end Go.Pl
set_option linter.unusedVariables false
set_option linter.unusedSimpArgs false
namespace Go.Pl
open Go Go.Lv
def Ez (b : List UInt8) : Int × Int := if (An0 b).2 ≠ 6 then An0 b else Sd b
theorem size_eq (b : List UInt8) (hl : b.length < 4611686018427387904) : Wp b = some (Ez b) := by
 rw [Wp, Bm3 b hl, Aa, Big b hl]
 by_cases h : (An0 b).2 = 6
 ·simp [Ez, h, Ah]
 ·simp [Ez, h, Ah]
theorem Az3 {b : List UInt8} {n : Int} (h : Ez b = (n, 0)) : 10 ≤ n ∧ n ≤ b.length := by
 unfold Ez at h
 split at h
 ·have := Bnh h; omega
 ·have := Bmb h; omega
def Dq (b : List UInt8) : Nat → Nat → List Int × Int
 | 0, _ => ([], 6)
 | j + 1, p => if (Ez (b.drop p)).2 = 6 then ([], 0) else if (Ez (b.drop p)).2 ≠ 0 then ([], (Ez (b.drop p)).2) else
  if 4000 < (p : Int) + (Ez (b.drop p)).1 then ([], 4) else
  if (Dq b j (p + (Ez (b.drop p)).1.toNat)).2 = 0 then ((Ez (b.drop p)).1 :: (Dq b j (p + (Ez (b.drop p)).1.toNat)).1, 0) else ([], (Dq b j (p + (Ez (b.drop p)).1.toNat)).2)
theorem Aur (b : List UInt8) : ∀ (j p : Nat), p ≤ b.length → p ≤ 4000 → (Dq b j p).2 = 0 → (∀ x ∈ (Dq b j p).1, 10 ≤ x) ∧ (p : Int) + (Dq b j p).1.sum ≤ b.length ∧ (p : Int) + (Dq b j p).1.sum ≤ 4000
 | 0, p, _, _, h => by simp [Dq] at h
 | j + 1, p, hp, hq, h => by
  rw [Dq] at h ⊢
  split at h
  ·rename_i h6; rw [if_pos h6]; simp; omega
  ·rename_i h6
   split at h
   ·rename_i h0; exact absurd h h0
   ·rename_i h0
    rw [if_neg h6, if_neg h0]
    have hz : Ez (b.drop p) = ((Ez (b.drop p)).1, 0) := by rw [Prod.ext_iff]; exact ⟨rfl, Classical.not_not.1 h0⟩
    have hs := Az3 hz
    rw [List.length_drop] at hs
    split at h
    ·simp at h
    ·rename_i h4
     rw [if_neg h4]
     split at h
     ·rename_i h00
      rw [if_pos h00]
      obtain ⟨i1, i2, i3⟩ := Aur b j _ (by omega) (by omega) h00
      refine ⟨fun x hx => ?_, ?_, ?_⟩
      ·rcases List.mem_cons.1 hx with rfl | hx
       ·exact hs.1
       ·exact i1 x hx
      ·simp only [List.sum_cons]; omega
      ·simp only [List.sum_cons]; omega
     ·rename_i h00; exact absurd h h00
def Bl7 (b : List UInt8) (j p : Nat) : Int × Int := if (Dq b j p).2 = 0 then ((p : Int) + (Dq b j p).1.sum, 0) else (0, (Dq b j p).2)
theorem Azt (b : List UInt8) (hl : b.length < 4611686018427387904) : ∀ (j p q : Nat), p ≤ b.length → p ≤ 4000 → b.length - p < j → j ≤ q → Tr b q (p : Int) = some (Bl7 b j p)
 | 0, p, q, _, _, h, _ => by omega
 | j + 1, p, q, hp, hp4, hj, hq => by
  obtain ⟨q, rfl⟩ : ∃ k, q = k + 1 := ⟨q - 1, by omega⟩
  rw [Tr, Ng (by omega) (by omega), Aa, Int.toNat_natCast, size_eq _ (by simp; omega), Aa, Bg, Bg, Ah, Bl7]
  by_cases h6 : (Ez (b.drop p)).2 = 6
  ·rw [if_pos (by simpa using h6)]
   have : Dq b (j + 1) p = ([], 0) := by rw [Dq, if_pos h6]
   rw [this]; simp
  ·rw [if_neg (by simpa using h6)]
   by_cases h0 : (Ez (b.drop p)).2 = 0
   ·have hz : Ez (b.drop p) = ((Ez (b.drop p)).1, 0) := by rw [Prod.ext_iff]; exact ⟨rfl, h0⟩
    have hs := Az3 hz
    rw [List.length_drop] at hs
    rw [Ag (by omega) (by omega), Au]
    by_cases h4 : 4000 < (p : Int) + (Ez (b.drop p)).1
    ·rw [if_pos (by simp [h0]; omega)]
     have : Dq b (j + 1) p = ([], 4) := by rw [Dq, if_neg h6, if_neg (fun h => h h0), if_pos h4]
     rw [this]; simp
    ·rw [if_neg (by simp [h0]; omega), if_neg (by simpa using h0)]
     have ih := Azt b hl j (p + (Ez (b.drop p)).1.toNat) q (by omega) (by omega) (by omega) (by omega)
     rw [show (p : Int) + (Ez (b.drop p)).1 = ((p + (Ez (b.drop p)).1.toNat : Nat) : Int) by omega, ih, Bl7]
     have : Dq b (j + 1) p = if (Dq b j (p + (Ez (b.drop p)).1.toNat)).2 = 0 then ((Ez (b.drop p)).1 :: (Dq b j (p + (Ez (b.drop p)).1.toNat)).1, 0) else ([], (Dq b j (p + (Ez (b.drop p)).1.toNat)).2) := by
      rw [Dq, if_neg h6, if_neg (fun h => h h0), if_neg h4]
     rw [this]
     by_cases hr : (Dq b j (p + (Ez (b.drop p)).1.toNat)).2 = 0
     ·simp only [hr, if_true, List.sum_cons]; congr 2; omega
     ·simp only [hr, if_false]
   ·rw [if_neg (by simp [h0]), if_pos (by simpa using h0)]
    have : Dq b (j + 1) p = ([], (Ez (b.drop p)).2) := by rw [Dq, if_neg h6, if_pos h0]
    rw [this]; simp [h0]
def Boe (b : List UInt8) (j p : Nat) (xs : List Int) : List Int × Int := if (Dq b j p).2 = 0 then (xs ++ (Dq b j p).1, 0) else ([], (Dq b j p).2)
theorem Bpb (bk : Int → List Int → Option (List Int × Int)) (b : List UInt8) (p : Nat) (hp : p ≤ b.length) (xs : List Int) (hx : xs.length ≤ 4000) (hl : b.length < 4611686018427387904) : Mp (Ih bk b) b (p : Int) xs = Ih bk b (p : Int) xs (Ez (b.drop p)).1 (Ez (b.drop p)).2 := by
 have hf := Bmo (b.drop p) (by simp; omega)
 rw [Mp, Ng (by omega) (by omega), Aa, Int.toNat_natCast, Bqf _ (by simp; omega), Aa]
 by_cases h : (An0 (b.drop p)).2 = 6
 ·simp [Ez, h, Bg, hf]
 ·simp [Ez, h, Bg]
theorem Bca (b : List UInt8) (hl : b.length < 4611686018427387904) : ∀ (j p q : Nat) (xs : List Int), p ≤ b.length → p ≤ 4000 → b.length - p < j → j ≤ q → xs.length ≤ p → Ik b q (p : Int) xs = some (Boe b j p xs)
 | 0, p, q, _, _, _, h, _, _ => by omega
 | j + 1, p, q, xs, hp, hp4, hj, hq, hx => by
  obtain ⟨q, rfl⟩ : ∃ k, q = k + 1 := ⟨q - 1, by omega⟩
  rw [Ik, Bpb _ b p hp xs (by omega) hl, Ih, Ac8, Bg, Ah, Boe]
  by_cases h6 : (Ez (b.drop p)).2 = 6
  ·rw [if_pos (by simpa using h6)]
   have : Dq b (j + 1) p = ([], 0) := by rw [Dq, if_pos h6]
   rw [this]; simp
  ·rw [if_neg (by simpa using h6)]
   by_cases h0 : (Ez (b.drop p)).2 = 0
   ·have hz : Ez (b.drop p) = ((Ez (b.drop p)).1, 0) := by rw [Prod.ext_iff]; exact ⟨rfl, h0⟩
    have hs := Az3 hz
    rw [List.length_drop] at hs
    rw [if_neg (by simpa using h0), Ag (by omega) (by omega), Au]
    by_cases h4 : 4000 < (p : Int) + (Ez (b.drop p)).1
    ·rw [if_pos (by simp; omega)]
     have : Dq b (j + 1) p = ([], 4) := by rw [Dq, if_neg h6, if_neg (fun h => h h0), if_pos h4]
     rw [this]; simp
    ·rw [if_neg (by simp; omega), Dc (by simp; omega), Aa]
     have ih := Bca b hl j (p + (Ez (b.drop p)).1.toNat) q (xs ++ [(Ez (b.drop p)).1]) (by omega) (by omega) (by omega) (by omega) (by simp; omega)
     rw [show (p : Int) + (Ez (b.drop p)).1 = ((p + (Ez (b.drop p)).1.toNat : Nat) : Int) by omega, ih, Boe]
     have : Dq b (j + 1) p = if (Dq b j (p + (Ez (b.drop p)).1.toNat)).2 = 0 then ((Ez (b.drop p)).1 :: (Dq b j (p + (Ez (b.drop p)).1.toNat)).1, 0) else ([], (Dq b j (p + (Ez (b.drop p)).1.toNat)).2) := by
      rw [Dq, if_neg h6, if_neg (fun h => h h0), if_neg h4]
     rw [this]
     by_cases hr : (Dq b j (p + (Ez (b.drop p)).1.toNat)).2 = 0
     ·simp only [hr, if_true]; simp
     ·simp only [hr, if_false]
   ·rw [if_pos (by simpa using h0)]
    have : Dq b (j + 1) p = ([], (Ez (b.drop p)).2) := by rw [Dq, if_neg h6, if_pos h0]
    rw [this]; simp [h0]
theorem Awh : ∀ {l : List Int}, (∀ x ∈ l, 10 ≤ x) → 0 ≤ l.sum ∧ (l.length : Int) ≤ l.sum
 | [], _ => by simp
 | x :: l, h => by
  have h1 := h x List.mem_cons_self
  have h2 := Awh (l := l) fun y hy => h y (List.mem_cons_of_mem _ hy)
  simp only [List.sum_cons, List.length_cons]; omega
theorem Azw (r : Int) (l : List Int) (hl : l.length ≤ 4000) (hx : ∀ x ∈ l, 10 ≤ x) : ∀ (j i q : Nat) (n : Int), i + j = l.length → j < q → 0 ≤ n → n + (l.drop i).sum ≤ 4000 → Gc r l q n (i : Int) = some (n + (l.drop i).sum, r)
 | 0, i, q + 1, n, hi, _, _, _ => by
  rw [Gc, Mm, if_neg (by rw [Af, Ac]; simp; omega), show i = l.length by omega, List.drop_length]
  simp [Tz, Adu]
 | j + 1, i, q + 1, n, hi, hq, hn, hs => by
  have hlt : i < l.length := by omega
  rw [drop_cons hlt, List.sum_cons] at hs ⊢
  have h1 := hx l[i] (List.getElem_mem hlt)
  have h2 := Awh (l := l.drop (i + 1)) fun y hy => hx y (List.mem_of_mem_drop hy)
  rw [Gc, Mm, if_pos (by rw [Af, Ac]; simp; omega), Cq hlt, Aa, Aa, Ag (by omega) (by omega), Ag (by omega) (by omega)]
  have ih := Azw r l hl hx j (i + 1) q (n + l[i]) (by omega) (by omega) (by omega) (by omega)
  rw [show ((i : Int) + 1) = ((i + 1 : Nat) : Int) by omega, ih]
  congr 2; omega
def frontS (b : List UInt8) : Int × Int := Bl7 b (b.length + 1) 0
theorem Apl (b : List UInt8) (hl : b.length < 4611686018427387904) : Xj b = some (frontS b) := by
 have := Azt b hl (b.length + 1) 0 Ba (by omega) (by omega) (by omega) (by have := Ap; omega)
 exact this
theorem Asn (b : List UInt8) (hl : b.length < 4611686018427387904) : Lo b = some (frontS b) := by
 have h := Bca b hl (b.length + 1) 0 Ba [] (by omega) (by omega) (by omega) (by have := Ap; omega) (by simp)
 have h' : Aal b = some (Boe b (b.length + 1) 0 []) := h
 rw [Lo, Uh, h', Aa, frontS, Bl7, Boe]
 have ho := Aur b (b.length + 1) 0 (by omega) (by omega)
 by_cases h0 : (Dq b (b.length + 1) 0).2 = 0
 ·obtain ⟨i1, i2, i3⟩ := ho h0
  have hp := Awh i1
  simp only [h0, if_true, List.nil_append]
  have := Azw 0 (Dq b (b.length + 1) 0).1 (by omega) i1 (Dq b (b.length + 1) 0).1.length 0 Ba 0 (by omega) (by have := Ap; omega) (by omega) (by simpa using i3)
  simpa [Mf] using this
 ·simp only [h0, if_false]
  have := Azw (Dq b (b.length + 1) 0).2 [] (by simp) (by simp) 0 0 Ba 0 (by simp) (by have := Ap; omega) (by omega) (by simp)
  simpa [Mf] using this
theorem Bcg {b : List UInt8} (h : (frontS b).2 = 0) : 0 ≤ (frontS b).1 ∧ (frontS b).1 ≤ b.length ∧ (frontS b).1 ≤ 4000 := by
 unfold frontS Bl7 at h ⊢
 split at h
 ·rename_i h0
  rw [if_pos h0]
  obtain ⟨i1, i2, i3⟩ := Aur b (b.length + 1) 0 (by omega) (by omega) h0
  have hp := Awh i1
  exact ⟨by simp; omega, i2, i3⟩
 ·rename_i h0; exact absurd h h0
end Go.Pl
set_option linter.unusedVariables false
set_option linter.unusedSimpArgs false
namespace Go.Pl
open Go Go.Lv
def longN (r : Nat) : Nat := max 1 (256 * r / 245)
theorem Alc (r : Nat) : 1 ≤ longN r := Nat.le_max_left _ _
theorem Axl {r : Nat} (h : r ≤ 1048576) : longN r ≤ 1100000 := by unfold longN; omega
theorem Beg {r : Nat} (h : r ≤ 1048576) : Aqs (1 : Int) (Bs (Bj (256 : Int) (r : Int)) (245 : Int)) = (longN r : Int) := by
 rw [Gt (by omega) (by omega), Af8, Int.tdiv_eq_ediv_of_nonneg (by omega), Cf (by omega) (by omega), Bis, longN]; omega
def framesL (g n : Nat) : List Int := List.replicate ((n - 1) / g) (g : Int) ++ [((n - (n - 1) / g * g : Nat) : Int)]
theorem Bhc (g n : Nat) : (framesL g n).length = (n - 1) / g + 1 := by simp [framesL]
theorem Bac {g n : Nat} (h : n ≤ g) (h1 : 1 ≤ n) : framesL g n = [(n : Int)] := by
 rw [framesL, Nat.div_eq_of_lt (by omega)]; simp
theorem Bfo {g n : Nat} (hg : 1 ≤ g) (h : g < n) : framesL g n = (g : Int) :: framesL g (n - g) := by
 have e : (n - 1) / g = (n - g - 1) / g + 1 := by rw [← Nat.add_div_right _ (by omega)]; congr 1; omega
 rw [framesL, framesL, e, List.replicate_succ, List.cons_append]
 congr 4
 have := Nat.div_mul_le_self (n - g - 1) g
 rw [Nat.add_mul, Nat.one_mul]; omega
theorem Asi {g n : Nat} (hg : 1 ≤ g) (h1 : 1 ≤ n) : (n + g - 1) / g = (n - 1) / g + 1 := by
 rw [← Nat.add_div_right _ (by omega)]; congr 1; omega
theorem Bao {r : Nat} (h1 : 1 ≤ r) (h : r ≤ 1048576) : Abz (r : Int) = some ((longN r : Int), 0) := by
 rw [Abz, if_neg (by simp [Af, Au]; omega), Beg h]
theorem Bo8 {r : Nat} (h : r ≤ 1048576) : Nn (r : Int) = some (longN r : Int) := by rw [Nn, Beg h]
theorem Ax3 {r n : Nat} (h1 : 1 ≤ r) (h : r ≤ 1048576) (n1 : 1 ≤ n) (n2 : n ≤ 4000) : Yv (r : Int) (n : Int) = some (if 1000 < (n - 1) / longN r + 1 then (0, 4) else ((((n - 1) / longN r + 1 : Nat) : Int), 0)) := by
 have hp := Alc r
 have hl := Axl h
 have e : Bs (Am (Ae (n : Int) (longN r : Int)) (1 : Int)) (longN r : Int) = (((n - 1) / longN r + 1 : Nat) : Int) := by
  have : (n + longN r - 1) / longN r ≤ n + longN r - 1 := Nat.div_le_self _ _
  rw [Ag (by omega) (by omega), Bk (by omega) (by omega), Af8, Int.tdiv_eq_ediv_of_nonneg (by omega), show (n : Int) + (longN r : Int) - 1 = ((n + longN r - 1 : Nat) : Int) by omega, ← Int.natCast_ediv, Asi hp n1]
  rw [Asi hp n1] at this
  generalize (n - 1) / longN r = k at *
  exact Cf (by omega) (by omega)
 rw [Yv, Bao h1 h, Aa]
 simp only
 rw [if_neg (by rw [Ah]; simp), if_neg (by simp [Af, Au]; omega), Bu (by rw [Ah]; simp; omega), Aa, e]
 by_cases hk : 1000 < (n - 1) / longN r + 1
 ·rw [if_pos (by rw [Au]; simp; omega), if_pos hk]
 ·rw [if_neg (by rw [Au]; simp; omega), if_neg hk]
theorem Ayb {r : Nat} (h : r ≤ 1048576) : ∀ (j n q : Nat) (acc : List Int), n ≤ 4000 → n ≤ j → j < q → acc.length + n ≤ 10000 → Dw (r : Int) q (n : Int) acc = some (acc ++ (if n = 0 then [] else framesL (longN r) n))
 | 0, n, q + 1, acc, hn, hj, hq, ha => by
  obtain rfl : n = 0 := by omega
  rw [Dw, Gg, if_neg (by rw [Au]; simp)]
  simp [Il, Mi]
 | j + 1, n, q + 1, acc, hn, hj, hq, ha => by
  have hp := Alc r
  have hl := Axl h
  by_cases h0 : n = 0
  ·subst h0
   rw [Dw, Gg, if_neg (by rw [Au]; simp)]
   simp [Il, Mi]
  ·rw [Dw, Gg, if_pos (by rw [Au]; simp; omega), Bo8 h, Aa, Dc (by simp; omega), Aa, Aa, Bk (by omega) (by omega), Akj]
   by_cases hs : n ≤ longN r
   ·rw [show min (n : Int) (longN r : Int) = (n : Int) by omega, if_neg h0, Bac hs (by omega)]
    have hz : ∃ k, q = k + 1 := ⟨q - 1, by omega⟩
    obtain ⟨q, rfl⟩ := hz
    rw [Dw, Gg, if_neg (by rw [Au]; simp; omega)]
    simp [Il, Mi]
   ·rw [show min (n : Int) (longN r : Int) = (longN r : Int) by omega, show (n : Int) - (longN r : Int) = ((n - longN r : Nat) : Int) by omega, Ayb h j (n - longN r) q _ (by omega) (by omega) (by omega) (by simp; omega), if_neg (by omega), if_neg h0, Bfo hp (show longN r < n by omega)]
    simp
theorem Ahy {r n : Nat} (h : r ≤ 1048576) (n1 : 1 ≤ n) (n2 : n ≤ 4000) : Cn (r : Int) (n : Int) = some (framesL (longN r) n) := by
 have := Ayb h n n Ba [] n2 (Nat.le_refl _) (by have := Ap; omega) (by simp; omega)
 rw [Cn, Uf, Uk, this, if_neg (by omega)]; rfl
theorem mul_one (m : Nat) (h : m ≤ 100000) : Aew (1 : UInt64) (UInt64.ofNat m) = some (0, UInt64.ofNat m) := by
 have y1 : (UInt64.ofNat m).toNat = m := Aju (by omega)
 have s1 : Db (1 : UInt64) (GI.toZ (32 : UInt64)).toNat = 0 := by decide
 have s2 : Db (UInt64.ofNat m) (GI.toZ (32 : UInt64)).toNat = 0 := by
  apply UInt64.toNat_inj.1
  rw [Afs, y1]
  exact Nat.div_eq_of_lt (Nat.lt_of_le_of_lt h (by decide))
 have s0 : Db (0 : UInt64) (GI.toZ (32 : UInt64)).toNat = 0 := by decide
 have a1 : Iu (1 : UInt64) (4294967295 : UInt64) = 1 := by decide
 have a0 : Iu (0 : UInt64) (4294967295 : UInt64) = 0 := by decide
 have a2 : Iu (UInt64.ofNat m) (4294967295 : UInt64) = UInt64.ofNat m := by
  apply UInt64.toNat_inj.1
  rw [Ay4, UInt64.toNat_and, y1]
  show m &&& (2 ^ 32 - 1) = m
  rw [Nat.and_two_pow_sub_one_eq_mod, Nat.mod_eq_of_lt (by omega)]
 have m1 : ∀ x : UInt64, Bj 1 x = x := fun x => by rw [Af0, UInt64.one_mul]
 have m0 : ∀ x : UInt64, Bj 0 x = 0 := fun x => by rw [Af0, UInt64.zero_mul]
 have p0 : ∀ x : UInt64, Ae 0 x = x := fun x => by rw [Afj, UInt64.zero_add]
 have p1 : ∀ x : UInt64, Ae x 0 = x := fun x => by rw [Afj, UInt64.add_zero]
 rw [Aew, Agg]
 simp only [s1, s2, a1, a2, m1, m0, p0, p1, s0, a0, Aa]
theorem Avz (v : Int) (m : Nat) (hm : m ≤ 100000) : ∀ (j n q : Nat), 1 ≤ n → n ≤ m → m - n ≤ j → j < q → El q (n : Int) (List.replicate n v ++ List.replicate (m - n) 0) = some (List.replicate m v)
 | j, n, q + 1, hn, hnm, hj, hq => by
  have hlen : Ac (List.replicate n v ++ List.replicate (m - n) 0) = (m : Int) := by simp [Ac]; omega
  rw [El, Gn, hlen]
  by_cases h : n < m
  ·obtain ⟨j, rfl⟩ : ∃ k, j = k + 1 := ⟨j - 1, by omega⟩
   rw [if_pos (by rw [Af]; simp; omega)]
   have v1 : vwI (m : Int) (n : Int) (m : Int) = some () := by rw [vwI, Bu]; simp; omega
   have v2 : vwI (m : Int) (0 : Int) (n : Int) = some () := by rw [vwI, Bu]; simp; omega
   have e1 : Ak3 (List.replicate n v ++ List.replicate (m - n) 0) (0 : Int) ((n : Int) - 0) = List.replicate n v := by
    simp [Ak3]
   rw [v1, Aa, v2, Aa, e1]
   have e2 : Ais ((m : Int) - (n : Int)) (List.replicate n v).length = ((min n (m - n) : Nat) : Int) := by
    rw [Ais, List.length_replicate]; split <;> omega
   have e3 : Uc (List.replicate n v ++ List.replicate (m - n) 0) (n : Int) ((m : Int) - (n : Int)) (List.replicate n v) = List.replicate (n + min n (m - n)) v ++ List.replicate (m - (n + min n (m - n))) 0 := by
    have t1 : ((m : Int) - (n : Int)).toNat = m - n := by omega
    have t2 : (List.replicate n v ++ List.replicate (m - n) (0 : Int)).take n = List.replicate n v := by simp
    rw [Uc, t1, Int.toNat_natCast, t2, List.take_replicate, List.length_replicate, ← List.append_assoc, List.replicate_append_replicate, List.drop_append, List.length_replicate, Nat.min_comm (m - n) n]
    simp only [List.drop_replicate]
    rw [show n - (n + min n (m - n)) = 0 by omega, List.replicate_zero, List.nil_append, show m - n - (n + min n (m - n) - n) = m - (n + min n (m - n)) by omega]
   rw [e2, e3, Ag (by omega) (by omega), show (n : Int) + ((min n (m - n) : Nat) : Int) = ((n + min n (m - n) : Nat) : Int) by omega]
   exact Avz v m hm j (n + min n (m - n)) q (by omega) (by omega) (by omega) (by omega)
  ·rw [if_neg (by rw [Af]; simp; omega)]
   obtain rfl : n = m := by omega
   simp [Ig, Na]
theorem Bma (v : Int) (m : Nat) (hm : m ≤ 100000) : Mh [v] (m : Int) = some (List.replicate m v) := by
 have y1 : (UInt64.ofNat m).toNat = m := Aju (by omega)
 have c1 : (Ad (Ac [v]) : UInt64) = 1 := by rfl
 have c2 : (Ad (m : Int) : UInt64) = UInt64.ofNat m := Aay m
 have c3 : (Ad (UInt64.ofNat m) : Int) = (m : Int) := by rw [Aus (by omega), y1]
 rw [Mh, Pj, if_neg (by rw [Af]; simp), Pd, Pb, c1, c2, mul_one m hm, Aa]
 simp only
 rw [if_neg (by rw [Ajo, Ajo, y1]; simp; show m ≤ 9223372036854775807; omega), Om, Pm, c3, Asv (by omega) (by omega), Aa, Bu (by rw [Bg]; simp), Aa, Ph, Int.toNat_natCast]
 by_cases h0 : m = 0
 ·subst h0
  have hF : Ba = (Ba - 1) + 1 := by have := Ap; omega
  rw [hF, El, Gn]
  simp [Ac, Axm, Ais, Af, Ig, Na]
 ·have := Avz v m hm m 1 Ba (by omega) (by omega) (by omega) (by have := Ap; omega)
  have e1 : Ais (Ac (List.replicate m (0 : Int))) [v].length = ((1 : Nat) : Int) := by simp [Ais, Ac]; omega
  have e2 : Axm (List.replicate m (0 : Int)) [v] = List.replicate 1 v ++ List.replicate (m - 1) 0 := by
   obtain ⟨k, rfl⟩ : ∃ k, m = k + 1 := ⟨m - 1, by omega⟩
   simp [Axm]
  rw [e1, e2, this]
theorem Bms (l m : List Int) (h : l.length + m.length ≤ 1000000) : Ms [l, m] = some (l ++ m) := by
 have hF : Ba = (Ba - 3) + 1 + 1 + 1 := by have := Ap; omega
 rw [Ms, Pa, Pf]
 have g0 : getI [l, m] (0 : Int) = some l := rfl
 have g1 : getI [l, m] (1 : Int) = some m := rfl
 have l2 : Ac [l, m] = 2 := rfl
 have h3 : Ie [l, m] [] = some (l ++ m) := by
  rw [Ie, Nb, Nd, hF, Eg, Fu, l2, if_pos (by decide), g0, Aa, Dc (by simp; omega), Aa, List.nil_append, show Ae (0 : Int) 1 = 1 by decide,
   Eg, Fu, l2, if_pos (by decide), g1, Aa, Dc (by omega), Aa, show Ae (1 : Int) 1 = 2 by decide, Eg, Fu, l2, if_neg (by decide)]
  rfl
 rw [hF, En, Gk, l2, if_pos (by decide), g0, Aa, Ag (by unfold Ac; omega) (by unfold Ac; omega), if_neg (by rw [Af, Ac]; simp), show Ae (0 : Int) 1 = 1 by decide,
  En, Gk, l2, if_pos (by decide), g1, Aa, Ag (by unfold Ac; omega) (by unfold Ac; omega), if_neg (by rw [Af, Ac, Ac]; simp; omega), show Ae (1 : Int) 1 = 2 by decide,
  En, Gk, l2, if_neg (by decide), Mw, Mv, if_neg (by rw [Af, Ac, Ac]; simp; omega), Mu, Nc]
 have z : Am (0 : Int) 0 = 0 := by decide
 have n0 : (0 : Int) + Ac l + Ac m = ((l.length + m.length : Nat) : Int) := by simp [Ac]
 rw [z, n0, Bk (by omega) (by omega), Int.sub_zero]
 by_cases hp : 0 < l.length + m.length
 ·rw [if_pos (by rw [Au]; simp; omega), show vwI (0 : Int) 0 0 = some () from rfl, Aa, Asv (by omega) (by omega), Aa, Dc (by simp; omega), Aa]
  rw [show vwI (Ac ([] ++ List.replicate ((l.length + m.length : Nat) : Int).toNat (0 : Int))) 0 0 = some () by rw [vwI, Bu]; simp [Ac]; omega, Aa]
  simp only [Ak3, Int.sub_self, Int.toNat_zero, List.take_zero]
  exact h3
 ·rw [if_neg (by rw [Au]; simp; omega)]; exact h3
theorem Boc {r n : Nat} (h1 : 1 ≤ r) (h : r ≤ 1048576) (n1 : 1 ≤ n) (n2 : n ≤ 4000) (hk : (n - 1) / longN r + 1 ≤ 1000) : Ajp (r : Int) (n : Int) = some (framesL (longN r) n, 0) := by
 have hp := Alc r
 have hl := Axl h
 have hd := Nat.div_mul_le_self (n - 1) (longN r)
 rw [Ajp, Ax3 h1 h n1 n2, if_neg (by omega), Aa]
 simp only
 rw [if_neg (by rw [Ah]; simp), Bao h1 h, Aa]
 simp only
 rw [framesL]
 generalize (n - 1) / longN r = k at *
 have e1 : Am ((k + 1 : Nat) : Int) 1 = (k : Int) := by rw [Bk (by omega) (by omega)]; omega
 have e2 : (k : Int) * (longN r : Int) = ((k * longN r : Nat) : Int) := by simp
 rw [e1, Bma _ _ (by omega), Aa, Gt (by rw [e2]; omega) (by rw [e2]; omega), e2, Bk (by omega) (by omega), Ah1, Bms _ _ (by simp; omega), Aa, Aa, show (n : Int) - ((k * longN r : Nat) : Int) = ((n - k * longN r : Nat) : Int) by omega]
end Go.Pl
set_option linter.unusedVariables false
set_option linter.unusedSimpArgs false
namespace Go.Pl
open Go Go.Lv
def shapeB (f c w r n : Nat) : Bool := decide ((f = 1 ∨ f = 2) ∧ (1 ≤ c ∧ c ≤ 6) ∧ (w = 8 ∨ w = 16 ∨ w = 24) ∧ (1 ≤ r ∧ r ≤ 1048576) ∧ 1 ≤ n)
def fitB (c r n : Nat) : Bool := decide (n ≤ 4000 / c ∧ (n - 1) / longN r + 1 ≤ 1000)
theorem Avh (f c w r n : Nat) : Ys (f : Int) (c : Int) (w : Int) (r : Int) (n : Int) = some (shapeB f c w r n) := by
 have e2 : Xn (f : Int) (c : Int) (w : Int) (r : Int) (n : Int) = some (decide ((f = 1 ∨ f = 2) ∧ (1 ≤ c ∧ c ≤ 6) ∧ (1 ≤ r ∧ r ≤ 1048576) ∧ 1 ≤ n)) := by
  rw [Xn, Alu]
  congr 1
  rw [Bool.eq_iff_iff]
  simp only [Bg, Au, Bbp, Bool.and_eq_true, Bool.or_eq_true, beq_iff_eq, decide_eq_true_eq]
  omega
 have g : ∀ k : Nat, geq (w : Int) (k : Int) = decide (w = k) := fun k => by rw [Bg, Bool.eq_iff_iff]; simp; omega
 have g8 : geq (w : Int) (8 : Int) = decide (w = 8) := g 8
 have g16 : geq (w : Int) (16 : Int) = decide (w = 16) := g 16
 have g24 : geq (w : Int) (24 : Int) = decide (w = 24) := g 24
 rw [Ys, Ad4, e2, g8, g16, g24, shapeB]
 by_cases h8 : w = 8
 ·subst h8; simp
 ·by_cases h16 : w = 16
  ·subst h16; simp
  ·by_cases h24 : w = 24
   ·subst h24; simp
   ·simp [h8, h16, h24]
theorem Bie (f c w r n : Nat) : Pw (f : Int) (c : Int) (w : Int) (r : Int) (n : Int) = some (shapeB f c w r n) := by
 rw [Pw, shapeB]
 simp only [Bg, Dz, Bbp, Bool.and_eq_true, Bool.or_eq_true, beq_iff_eq, decide_eq_true_eq, Bool.false_and]
 split
 ·rename_i h
  congr 1
  rw [Bool.eq_iff_iff]
  simp only [Bool.and_eq_true, Bool.or_eq_true, beq_iff_eq, decide_eq_true_eq]
  omega
 ·rename_i h
  congr 1
  symm
  rw [decide_eq_false_iff_not]
  omega
theorem Btg {c : Nat} (h : 1 ≤ c) : Bs (4000 : Int) (c : Int) = ((4000 / c : Nat) : Int) := by
 have : 4000 / c ≤ 4000 := Nat.div_le_self _ _
 rw [Af8, Int.tdiv_eq_ediv_of_nonneg (by omega), show (4000 : Int) = ((4000 : Nat) : Int) from rfl, ← Int.natCast_ediv]
 generalize 4000 / c = k at *
 exact Cf (by omega) (by omega)
theorem Ba7 {f c w r n : Nat} (h : shapeB f c w r n = true) : Ae5 (f : Int) (c : Int) (w : Int) (r : Int) (n : Int) = some (fitB c r n) := by
 simp only [shapeB, decide_eq_true_eq] at h
 have hd : 4000 / c ≤ 4000 := Nat.div_le_self _ _
 rw [Ae5, Bu (by rw [Ah]; simp; omega), Aa, Btg (by omega), fitB]
 generalize 4000 / c = m at *
 by_cases h1 : n ≤ m
 ·rw [if_neg (by rw [Au]; simp; omega), Ax3 (by omega) (by omega) (by omega) (by omega), Aa]
  generalize (n - 1) / longN r + 1 = k
  by_cases h2 : 1000 < k
  ·rw [if_pos h2]
   simp [Bg, Bbp]
   omega
  ·rw [if_neg h2]
   simp [Bg, Bbp, h1]
   omega
 ·rw [if_pos (by rw [Au]; simp; omega)]
  simp [h1]
theorem Bqg {f c w r n : Nat} (h : shapeB f c w r n = true) : Jz (f : Int) (c : Int) (w : Int) (r : Int) (n : Int) = some (!fitB c r n) := by
 simp only [shapeB, decide_eq_true_eq] at h
 have hd : 4000 / c ≤ 4000 := Nat.div_le_self _ _
 rw [Jz, Bu (by rw [Ah]; simp; omega), Aa, Btg (by omega), fitB]
 generalize 4000 / c = m at *
 by_cases h1 : n ≤ m
 ·rw [if_neg (by rw [Au]; simp; omega), Ahy (by omega) (by omega) (by omega), Aa, Ac, Bhc]
  generalize (n - 1) / longN r + 1 = k
  congr 1
  rw [Au, Bool.eq_iff_iff]
  simp only [decide_eq_true_eq, Bool.not_eq_true', decide_eq_false_iff_not]
  omega
 ·rw [if_pos (by rw [Au]; simp; omega)]
  simp [h1]
def Avg : List UInt8 := [84, 84, 65, 49]
def f0 (b : List UInt8) : Nat := Es (part b 4 2)
def f1 (b : List UInt8) : Nat := Es (part b 6 2)
def f2 (b : List UInt8) : Nat := Es (part b 8 2)
def f3 (b : List UInt8) : Nat := Es (part b 10 4)
def f4 (b : List UInt8) : Nat := Es (part b 14 4)
abbrev H6 := Int × Int × Int × Int × Int × Int
def Yt (b : List UInt8) : H6 :=
 if b.take (min 4 b.length) ≠ Avg.take (min 4 b.length) then (0, 0, 0, 0, 0, 12) else if b.length < 22 then (0, 0, 0, 0, 0, 24) else
 if (Hs (b.take 18)).toNat ≠ Es (part b 18 4) then (0, 0, 0, 0, 0, 22) else
 if shapeB (f0 b) (f1 b) (f2 b) (f3 b) (f4 b) = false then (0, 0, 0, 0, 0, 12) else
 if fitB (f1 b) (f3 b) (f4 b) = false then (0, 0, 0, 0, 0, 4) else ((f0 b : Int), (f1 b : Int), (f2 b : Int), (f3 b : Int), (f4 b : Int), 0)
section
variable {b : List UInt8}
theorem rs1 (h : b.take (min 4 b.length) ≠ Avg.take (min 4 b.length)) : Yt b = (0, 0, 0, 0, 0, 12) := by rw [Yt, if_pos h]
variable (h : b.take (min 4 b.length) = Avg.take (min 4 b.length))
include h
theorem rs2 (h2 : b.length < 22) : Yt b = (0, 0, 0, 0, 0, 24) := by rw [Yt, if_neg (fun e => e h), if_pos h2]
variable (h2 : ¬ b.length < 22)
include h2
theorem rs3 (h3 : (Hs (b.take 18)).toNat ≠ Es (part b 18 4)) : Yt b = (0, 0, 0, 0, 0, 22) := by rw [Yt, if_neg (fun e => e h), if_neg h2, if_pos h3]
variable (h3 : (Hs (b.take 18)).toNat = Es (part b 18 4))
include h3
theorem rs4 (h4 : shapeB (f0 b) (f1 b) (f2 b) (f3 b) (f4 b) = false) : Yt b = (0, 0, 0, 0, 0, 12) := by rw [Yt, if_neg (fun e => e h), if_neg h2, if_neg (fun e => e h3), if_pos h4]
variable (h4 : shapeB (f0 b) (f1 b) (f2 b) (f3 b) (f4 b) = true)
include h4
theorem rs5 (h5 : fitB (f1 b) (f3 b) (f4 b) = false) : Yt b = (0, 0, 0, 0, 0, 4) := by rw [Yt, if_neg (fun e => e h), if_neg h2, if_neg (fun e => e h3), if_neg (by rw [h4]; simp), if_pos h5]
theorem rs6 (h5 : fitB (f1 b) (f3 b) (f4 b) = true) : Yt b = ((f0 b : Int), (f1 b : Int), (f2 b : Int), (f3 b : Int), (f4 b : Int), 0) := by rw [Yt, if_neg (fun e => e h), if_neg h2, if_neg (fun e => e h3), if_neg (by rw [h4]; simp), if_neg (by rw [h5]; simp)]
end
theorem Bqn (b : List UInt8) (h2 : ¬ b.length < 22) : Cl (Ad (Hs (b.take 18)) : UInt64) (leU (part b 18 4)) = decide ((Hs (b.take 18)).toNat ≠ Es (part b 18 4)) := by
 rw [Ahc, Ia, Bool.eq_iff_iff]
 simp only [bne_iff_ne, ne_eq, decide_eq_true_eq]
 rw [← UInt64.toNat_inj, Aju (by have := (Hs (b.take 18)).toNat_lt; omega), Ajw (by rw [Ds (by omega)]; omega)]
theorem Aok (b : List UInt8) (a w : Nat) (i q : Nat) (l : List Int) (hi : i < 5) (hl : l.length = 5) (hw : getI ([2, 2, 2, 4, 4] : List Int) (i : Int) = some (w : Int)) (h1 : 1 ≤ w) (h4 : w ≤ 4) (ha : a + w ≤ b.length) (hb : b.length < 4611686018427387904) :
  Lu b (q + 1) (a : Int) (i : Int) l = Lu b q ((a + w : Nat) : Int) ((i + 1 : Nat) : Int) (l.set i (Es (part b a w) : Int)) := by
 rw [Lu, Acy, if_pos (by rw [Af]; simp; omega), hw, Aa, Bb7 b a w h1 (by omega) ha hb, Aa]
 simp only
 rw [Cq (by omega), Aa, We _ (by omega), Aa, Aeu (by rw [Ds ha]; omega), Ag (by omega) (by omega), Ag (by omega) (by omega)]
 rfl
theorem Bp0 (b : List UInt8) (h22 : ¬ b.length < 22) (hb : b.length < 4611686018427387904) : Abi b 4 0 (List.replicate 5 0) = Abj [(f0 b : Int), (f1 b : Int), (f2 b : Int), (f3 b : Int), (f4 b : Int)] := by
 have hF : Ba = (Ba - 6) + 1 + 1 + 1 + 1 + 1 + 1 := by have := Ap; omega
 rw [Abi, hF, show (4 : Int) = ((4 : Nat) : Int) from rfl, show (0 : Int) = ((0 : Nat) : Int) from rfl]
 rw [Aok b 4 2 0 _ _ (by omega) (by simp) rfl (by omega) (by omega) (by omega) hb, Aok b 6 2 1 _ _ (by omega) (by simp) rfl (by omega) (by omega) (by omega) hb, Aok b 8 2 2 _ _ (by omega) (by simp) rfl (by omega) (by omega) (by omega) hb,
  Aok b 10 4 3 _ _ (by omega) (by simp) rfl (by omega) (by omega) (by omega) hb, Aok b 14 4 4 _ _ (by omega) (by simp) rfl (by omega) (by omega) (by omega) hb, Lu, Acy, if_neg (by rw [Af]; simp)]
 rfl
theorem Bwt (b : List UInt8) : Va [84, 84, 65, 49] (b.take (min 4 b.length)) = some (decide (b.take (min 4 b.length) = Avg.take (min 4 b.length))) := by
 have hl : (b.take (min 4 b.length)).length = min 4 b.length := by rw [List.length_take]; omega
 rw [Va, Is, if_pos (by rw [Dz, Ac, Ac, hl]; simp; omega), Ac, hl, Kt (by omega) (by simp; omega), Aa, Aa, Int.toNat_natCast]
 congr 1
 rw [Bool.eq_iff_iff]
 rw [decide_eq_true_eq, beq_iff_eq]
 exact eq_comm
theorem Bvy (b : List UInt8) : Hf (4 : Int) (Ac b) = ((min 4 b.length : Nat) : Int) := by rw [Akj, Ac]; omega
theorem Bbo (b : List UInt8) (hb : b.length < 4611686018427387904) : Afp b = some (Yt b) := by
 rw [Afp, Aiu, Bvy, Kt (by omega) (by omega), Aa, Int.toNat_natCast, Bwt, Aa]
 by_cases h : b.take (min 4 b.length) = Avg.take (min 4 b.length)
 ·rw [if_neg (by simpa using h)]
  by_cases h2 : b.length < 22
  ·rw [if_pos (by rw [Af, Ac]; simp; omega), rs2 h h2]
  ·have a1 : Alh b 18 4 = some (leU (part b 18 4), 0) := Bb7 b 18 4 (by omega) (by omega) (by omega) hb
   rw [if_neg (by rw [Af, Ac]; simp; omega), a1, Aa]
   simp only
   rw [Kt (by omega) (by omega), Aa, show (18 : Int).toNat = 18 from rfl, Bi8 _ (by simp; omega), Aa]
   simp only
   rw [Bqn b h2]
   by_cases h3 : (Hs (b.take 18)).toNat = Es (part b 18 4)
   ·rw [if_neg (by simpa using h3), Bp0 b h2 hb, Abj, Apm]
    rw [show getI [(f0 b : Int), (f1 b : Int), (f2 b : Int), (f3 b : Int), (f4 b : Int)] 0 = some (f0 b : Int) from rfl, show getI [(f0 b : Int), (f1 b : Int), (f2 b : Int), (f3 b : Int), (f4 b : Int)] 1 = some (f1 b : Int) from rfl, show getI [(f0 b : Int), (f1 b : Int), (f2 b : Int), (f3 b : Int), (f4 b : Int)] 2 = some (f2 b : Int) from rfl,
     show getI [(f0 b : Int), (f1 b : Int), (f2 b : Int), (f3 b : Int), (f4 b : Int)] 3 = some (f3 b : Int) from rfl, show getI [(f0 b : Int), (f1 b : Int), (f2 b : Int), (f3 b : Int), (f4 b : Int)] 4 = some (f4 b : Int) from rfl]
    simp only [Aa, Avh]
    cases h4 : shapeB (f0 b) (f1 b) (f2 b) (f3 b) (f4 b) with
    | false => rw [rs4 h h2 h3 h4]; rfl
    | true =>
     rw [Ba7 h4, if_neg (by simp), Aa]
     cases h5 : fitB (f1 b) (f3 b) (f4 b) with
     | false => rw [rs5 h h2 h3 h4 h5]; rfl
     | true => rw [rs6 h h2 h3 h4 h5]; rfl
   ·rw [if_pos (by simpa using h3), rs3 h h2 h3]
 ·rw [if_pos (by simpa using h), rs1 h]
theorem Bet (b : List UInt8) (hb : b.length < 4611686018427387904) : Nj b = some (Yt b) := by
 rw [Nj, Wz, Bvy, Kt (by omega) (by omega), Aa, Int.toNat_natCast, Kt (by omega) (by simp; omega), Aa, Int.toNat_natCast]
 by_cases h : b.take (min 4 b.length) = Avg.take (min 4 b.length)
 ·rw [if_neg (by rw [h]; simp [Avg]), Wm, Wc]
  by_cases h2 : b.length < 22
  ·rw [if_pos (by rw [Af, Ac]; simp; omega), rs2 h h2]
  ·have a1 : Ce b 18 22 = some (part b 18 4) := Nq 18 4 (by omega)
   have c1 : Ce b 4 6 = some (part b 4 2) := Nq 4 2 (by omega)
   have c2 : Ce b 6 8 = some (part b 6 2) := Nq 6 2 (by omega)
   have c3 : Ce b 8 10 = some (part b 8 2) := Nq 8 2 (by omega)
   have c4 : Ce b 10 14 = some (part b 10 4) := Nq 10 4 (by omega)
   have c5 : Ce b 14 18 = some (part b 14 4) := Nq 14 4 (by omega)
   have hs : Cl (leU (part b 18 4)) (Ad (Hs (b.take 18)) : UInt64) = decide ((Hs (b.take 18)).toNat ≠ Es (part b 18 4)) := by
    rw [← Bqn b h2, Ahc, Ahc, Bool.eq_iff_iff]; simp only [bne_iff_ne, ne_eq]; exact not_congr eq_comm
   have lp : ∀ a w, a + w ≤ b.length → Ao (part b a w) = some (leU (part b a w)) := fun a w h => Bf5 _ (by rw [Ds h]; omega)
   rw [if_neg (by rw [Af, Ac]; simp; omega), a1, Aa, Kt (by omega) (by omega), Aa, show (18 : Int).toNat = 18 from rfl, lp _ _ (by omega), Aa, Bor _ (by simp; omega), Aa, hs]
   by_cases h3 : (Hs (b.take 18)).toNat = Es (part b 18 4)
   ·rw [if_neg (by simpa using h3), Wq, Od, c1, Aa, c2, Aa, c3, Aa, c4, Aa, c5, Aa, lp _ _ (by omega), Aa, lp _ _ (by omega), Aa, lp _ _ (by omega), Aa, lp _ _ (by omega), Aa, lp _ _ (by omega), Aa,
     Xk, Afw, Aeu (by rw [Ds (by omega)]; omega), Aeu (by rw [Ds (by omega)]; omega), Aeu (by rw [Ds (by omega)]; omega), Aeu (by rw [Ds (by omega)]; omega), Aeu (by rw [Ds (by omega)]; omega)]
    rw [show Es (part b 4 2) = f0 b from rfl, show Es (part b 6 2) = f1 b from rfl, show Es (part b 8 2) = f2 b from rfl, show Es (part b 10 4) = f3 b from rfl, show Es (part b 14 4) = f4 b from rfl, Bie, Aa]
    cases h4 : shapeB (f0 b) (f1 b) (f2 b) (f3 b) (f4 b) with
    | false => rw [rs4 h h2 h3 h4]; rfl
    | true =>
     rw [Bqg h4, if_neg (by simp), Aa]
     cases h5 : fitB (f1 b) (f3 b) (f4 b) with
     | false => rw [rs5 h h2 h3 h4 h5]; rfl
     | true => rw [rs6 h h2 h3 h4 h5]; rfl
   ·rw [if_pos (by simpa using h3), rs3 h h2 h3]
 ·rw [if_pos (by simpa [Avg] using h), rs1 h]
theorem Bge {b : List UInt8} (h : (Yt b).2.2.2.2.2 = 0) : Yt b = ((f0 b : Int), (f1 b : Int), (f2 b : Int), (f3 b : Int), (f4 b : Int), 0) ∧ 22 ≤ b.length ∧ shapeB (f0 b) (f1 b) (f2 b) (f3 b) (f4 b) = true ∧ fitB (f1 b) (f3 b) (f4 b) = true := by
 unfold Yt at h ⊢
 split at h; · simp at h
 rename_i c1; rw [if_neg c1]
 split at h; · simp at h
 rename_i c2; rw [if_neg c2]
 split at h; · simp at h
 rename_i c3; rw [if_neg c3]
 split at h; · simp at h
 rename_i c4; rw [if_neg c4]
 split at h; · simp at h
 rename_i c5; rw [if_neg c5]
 exact ⟨rfl, by omega, by simpa using c4, by simpa using c5⟩
theorem Ajz {f c w r n : Nat} (h : shapeB f c w r n = true) (h2 : fitB c r n = true) : Oq (f : Int) (c : Int) (w : Int) (r : Int) (n : Int) = some (framesL (longN r) n, 0) := by
 have hc : Ag9 (f : Int) (c : Int) (w : Int) (r : Int) (n : Int) = some 0 := by
  rw [Ag9, Avh, Aa, h, if_neg (by simp), Ba7 h, Aa, h2]; rfl
 have hd : 4000 / c ≤ 4000 := Nat.div_le_self _ _
 simp only [shapeB, decide_eq_true_eq] at h
 simp only [fitB, decide_eq_true_eq] at h2
 rw [Oq, hc, Aa, if_neg (by rw [Ah]; simp), Boc (by omega) (by omega) (by omega) (by omega) h2.2]
 rfl
end Go.Pl
