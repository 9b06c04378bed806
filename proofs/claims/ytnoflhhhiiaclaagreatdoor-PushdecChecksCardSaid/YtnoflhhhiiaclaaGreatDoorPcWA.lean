/- A part of the proof of a statement of this seat (see the text that ends in Proof): LwBase, LwBitB, LwLe, LwBits, LwRef02, LwCut, LwUn, LwRice, LwDual, LwVal, LwI32, LwFil, LwUnm, LwSam, LwCrc, LwFrm, LwC64, LwWby, LwId, LwApe, LwStrip, LwLen, LwHead. No conditions of its own. -/
import Derived.Test.YtnoflhhhiiaclaaGreatDoorPcBA
import Derived.Test.YtnoflhhhiiaclaaGreatDoorPcPA
set_option linter.unusedVariables false
set_option linter.unusedSimpArgs false
namespace Go.Lv
theorem Ag {a b : Int} (h : -9223372036854775808 ≤ a + b) (h' : a + b ≤ 9223372036854775807) : Af a b = a + b := by rw [Br5, By h h']
theorem Ce {a b : Int} (h : -9223372036854775808 ≤ a - b) (h' : a - b ≤ 9223372036854775807) : Ao a b = a - b := by rw [Brl, By h h']
theorem Hs {a b : Int} (h : -9223372036854775808 ≤ a * b) (h' : a * b ≤ 9223372036854775807) : Bo a b = a * b := by rw [Bm7, By h h']
theorem Afy (c : UInt8) : (Ad c : Int) = (c.toNat : Int) := by rw [Bk8, By] <;> have := c.toNat_lt <;> omega
theorem Be7 (c : UInt32) : (Ad c : Int) = (c.toNat : Int) := by rw [Bht, By] <;> have := c.toNat_lt <;> omega
theorem Ao6 (c : UInt8) : (Ad c : UInt64) = UInt64.ofNat c.toNat := by simp only [Ad, Ys, Gh]
theorem Hr (c : UInt32) : (Ad c : UInt64) = UInt64.ofNat c.toNat := by simp only [Ad, Wk, Gh]
theorem Akw (c : UInt64) : (Ad c : UInt8) = UInt8.ofNat c.toNat := by simp only [Ad, Ht, Ld]
theorem Apl (c : UInt32) : (Ad c : UInt8) = UInt8.ofNat c.toNat := by simp only [Ad, Wk, Ld]
theorem Zo (n : Nat) : (Ad (n : Int) : UInt64) = UInt64.ofNat n := by simp only [Ad]; exact Gh n
theorem Ax3 (n : Nat) : (Ad (n : Int) : UInt32) = UInt32.ofNat n := by simp only [Ad]; exact Dy n
theorem Bln (n : Nat) : (Ad (n : Int) : UInt8) = UInt8.ofNat n := by simp only [Ad]; exact Ld n
theorem Ard {c : UInt64} (h : c.toNat < 9223372036854775808) : (Ad c : Int) = (c.toNat : Int) := by rw [Bij, By] <;> omega
theorem Bhm : LIM = 17179869184 := by decide
theorem Ay : 36893488147419103231 < Bc := by decide
theorem Dk {α : Type} {l : List α} {n : Nat} (h : n < l.length) : Aj l (n : Int) = some l[n] := by simp [Aj, h]
theorem Wu {α : Type} {l : List α} {n : Nat} (x : α) (h : n < l.length) : Qk l (n : Int) x = some (l.set n x) := by simp [Qk, h]
theorem Ak7 {α : Type} {l : List α} {a b : Int} (h : 0 ≤ a) (h1 : a ≤ b) (h2 : b ≤ l.length) : Bs l a b = some ((l.take b.toNat).drop a.toNat) := by rw [Bs, if_pos ⟨h, h1, h2⟩]
theorem Jm {α : Type} {l : List α} {a : Int} (h : 0 ≤ a) (h1 : a ≤ l.length) : Bs l a (Ac l) = some (l.drop a.toNat) := by
 unfold Ac; rw [Ak7 h h1 (Int.le_refl _), Int.toNat_natCast, List.take_length]
theorem Gd {α : Type} {l : List α} {b : Int} (h : 0 ≤ b) (h1 : b ≤ l.length) : Bs l 0 b = some (l.take b.toNat) := by rw [Ak7 (Int.le_refl _) h h1]; rfl
theorem Fc {α : Type} {l m : List α} (h : l.length + m.length ≤ 17179869184) : Gc l m = some (l ++ m) := by rw [Gc, Bhm, if_pos h]
theorem Awn {α : Type} {n : Int} {z : α} (h : 0 ≤ n) (h' : n ≤ 17179869184) : mkI n z = some (List.replicate n.toNat z) := by rw [mkI, Bhm, if_pos ⟨h, h'⟩]
theorem Cu {b : Bool} (h : b = true) : Ut b = some () := by rw [h]; rfl
theorem Aa {α β : Type} (a : α) (f : α → Option β) : Option.bind (some a) f = f a := rfl
theorem drop_cons {α : Type} {l : List α} {n : Nat} (h : n < l.length) : l.drop n = l[n] :: l.drop (n + 1) := List.drop_eq_getElem_cons h
theorem Ajt {α : Type} {l : List α} {n : Nat} (h : n < l.length) : l.take (n + 1) = l.take n ++ [l[n]] := by rw [List.take_add_one, List.getElem?_eq_getElem h]; rfl
def Eh : List UInt8 → Nat
 | [] => 0
 | x :: r => x.toNat + 256 * Eh r
theorem Az6 : ∀ l : List UInt8, Eh l < 256 ^ l.length
 | [] => by simp [Eh]
 | x :: r => by
  have h := Az6 r
  have := x.toNat_lt
  simp only [Eh, List.length_cons, Nat.pow_succ]
  omega
theorem Auo : ∀ l m : List UInt8, Eh (l ++ m) = Eh l + 256 ^ l.length * Eh m
 | [], m => by simp [Eh]
 | x :: r, m => by
  simp only [Eh, List.cons_append, Auo r m, List.length_cons, Nat.pow_succ, Nat.mul_add]
  rw [Nat.mul_comm (256 ^ r.length) 256, Nat.mul_assoc]; omega
def leU (l : List UInt8) : UInt64 := UInt64.ofNat (Eh l)
theorem Bop {l : List UInt8} (h : l.length ≤ 8) : Eh l < 18446744073709551616 := by
 have h1 := Az6 l
 have h2 : 256 ^ l.length ≤ 256 ^ 8 := Nat.pow_le_pow_right (by omega) h
 exact Nat.lt_of_lt_of_le h1 (by simpa using h2)
theorem Bgx {l : List UInt8} (h : l.length ≤ 4) : Eh l < 4294967296 := by
 have h1 := Az6 l
 have h2 : 256 ^ l.length ≤ 256 ^ 4 := Nat.pow_le_pow_right (by omega) h
 exact Nat.lt_of_lt_of_le h1 (by simpa using h2)
theorem Ahy {l : List UInt8} (h : l.length ≤ 8) : (leU l).toNat = Eh l := by
 rw [leU, UInt64.toNat_ofNat', Nat.mod_eq_of_lt (Bop h)]
theorem Acy {l : List UInt8} (h : l.length ≤ 4) : (Ad (leU l) : Int) = (Eh l : Int) := by
 have := Bgx h
 rw [Ard] <;> rw [Ahy (by omega)]; omega
def leB (n : Nat) : Nat → List UInt8
 | 0 => []
 | w + 1 => UInt8.ofNat n :: leB (n / 256) w
theorem Pe : ∀ (w n : Nat), (leB n w).length = w
 | 0, _ => rfl
 | w + 1, n => by simp [leB, Pe w]
theorem Bbj : ∀ (w n : Nat), leB n (w + 1) = leB n w ++ [UInt8.ofNat (n / 256 ^ w)]
 | 0, n => by simp [leB]
 | w + 1, n => by
  rw [leB, Bbj w (n / 256), leB]
  simp [Nat.div_div_eq_div_mul, Nat.pow_succ, Nat.mul_comm]
end Go.Lv
set_option linter.unusedVariables false
set_option linter.unusedSimpArgs false
namespace Go.Lv
def Jj (p : List UInt8) (i : Nat) : Nat := (p.getD (i / 8) 0).toNat / 2 ^ (i % 8) % 2
theorem Xs (p : List UInt8) (i : Nat) : Jj p i < 2 := Nat.mod_lt _ (by omega)
def Bw (p : List UInt8) : Nat → Nat → Nat
 | _, 0 => 0
 | a, n + 1 => Jj p a + 2 * Bw p (a + 1) n
theorem Rm (p : List UInt8) : ∀ (n a : Nat), Bw p a n < 2 ^ n
 | 0, _ => by simp [Bw]
 | n + 1, a => by
  have := Rm p n (a + 1)
  have := Xs p a
  rw [Bw, Nat.pow_succ]; omega
theorem Af6 (p : List UInt8) : ∀ (m n a : Nat), Bw p a (m + n) = Bw p a m + 2 ^ m * Bw p (a + m) n
 | 0, n, a => by simp [Bw]
 | m + 1, n, a => by
  rw [show m + 1 + n = (m + n) + 1 by omega, Bw, Bw, Af6 p m n (a + 1), show a + 1 + m = a + (m + 1) by omega, Nat.pow_succ, Nat.mul_add, Nat.mul_comm (2 ^ m) 2, Nat.mul_assoc]; omega
theorem Ba5 (p : List UInt8) (a : Nat) : Bw p a 1 = Jj p a := by simp [Bw]
theorem Ayh (p : List UInt8) (a n : Nat) : Bw p a (n + 1) = Bw p a n + 2 ^ n * Jj p (a + n) := by rw [Af6 p n 1 a, Ba5]
theorem Arp (p : List UInt8) (a : Nat) : ∀ t : Nat, a % 8 + t ≤ 8 → Bw p a t = (p.getD (a / 8) 0).toNat / 2 ^ (a % 8) % 2 ^ t
 | 0, _ => by simp [Bw, Nat.mod_one]
 | t + 1, h => by
  have h1 : (a + t) / 8 = a / 8 := by omega
  have h2 : (a + t) % 8 = a % 8 + t := by omega
  rw [Ayh, Arp p a t (by omega), Jj, h1, h2, Nat.mod_pow_succ, Nat.pow_add, Nat.div_div_eq_div_mul]
theorem Ayd {p : List UInt8} : ∀ (n a : Nat), (∀ k, k < n → Jj p (a + k) = 0) → Bw p a n = 0
 | 0, _, _ => rfl
 | n + 1, a, h => by
  have h0 := h 0 (by omega)
  rw [Bw, Ayd n (a + 1) fun k hk => by have := h (k + 1) (by omega); rwa [show a + 1 + k = a + (k + 1) by omega]]
  rw [Nat.add_zero] at h0; omega
def okB (p : List UInt8) (n : Nat) : Prop := n ≤ 330000 ∧ p.length = (n + 7) / 8 ∧ ∀ k, n ≤ k → k < 8 * p.length → Jj p k = 0
def Acu (p : List UInt8) (a n : Nat) : List UInt8 := (List.range ((n + 7) / 8)).map fun j => UInt8.ofNat (Bw p (a + 8 * j) (min 8 (n - 8 * j)))
theorem Nq (p : List UInt8) (a n : Nat) : (Acu p a n).length = (n + 7) / 8 := by simp [Acu]
theorem Bdu (p : List UInt8) : ∀ (n a k : Nat), k < n → Bw p a n / 2 ^ k % 2 = Jj p (a + k)
 | n + 1, a, 0, _ => by have := Xs p a; rw [Bw]; simp; omega
 | n + 1, a, k + 1, h => by
  have hb := Xs p a
  have e : (Jj p a + 2 * Bw p (a + 1) n) / 2 = Bw p (a + 1) n := by omega
  rw [Bw, Nat.pow_succ, Nat.mul_comm (2 ^ k) 2, ← Nat.div_div_eq_div_mul, e, Bdu p n (a + 1) k (by omega), show a + 1 + k = a + (k + 1) by omega]
theorem Bi4 (p : List UInt8) (n a k : Nat) (h : n ≤ k) : Bw p a n / 2 ^ k % 2 = 0 := by
 have := Rm p n a
 rw [Nat.div_eq_of_lt (Nat.lt_of_lt_of_le this (Nat.pow_le_pow_right (by omega) h))]
theorem Bmc (p : List UInt8) (a n k : Nat) : Jj (Acu p a n) k = if k < n then Jj p (a + k) else 0 := by
 rw [Jj]
 by_cases hj : k / 8 < (n + 7) / 8
 ·have e : (Acu p a n).getD (k / 8) 0 = UInt8.ofNat (Bw p (a + 8 * (k / 8)) (min 8 (n - 8 * (k / 8)))) := by
   rw [List.getD_eq_getElem?_getD, List.getElem?_eq_getElem (by rw [Nq]; exact hj)]; simp [Acu]
  have hlt : Bw p (a + 8 * (k / 8)) (min 8 (n - 8 * (k / 8))) < 256 := by
   have := Rm p (min 8 (n - 8 * (k / 8))) (a + 8 * (k / 8))
   have h2 : 2 ^ (min 8 (n - 8 * (k / 8))) ≤ 2 ^ 8 := Nat.pow_le_pow_right (by omega) (by omega)
   omega
  have hu : (UInt8.ofNat (Bw p (a + 8 * (k / 8)) (min 8 (n - 8 * (k / 8))))).toNat = Bw p (a + 8 * (k / 8)) (min 8 (n - 8 * (k / 8))) := by
   rw [UInt8.toNat_ofNat']; exact Nat.mod_eq_of_lt hlt
  rw [e, hu]
  by_cases hk : k < n
  ·rw [if_pos hk, Bdu p _ _ _ (by omega), show a + 8 * (k / 8) + k % 8 = a + k by omega]
  ·rw [if_neg hk, Bi4 p _ _ _ (by omega)]
 ·have e : (Acu p a n).getD (k / 8) 0 = 0 := by
   rw [List.getD_eq_getElem?_getD, List.getElem?_eq_none (by rw [Nq]; omega)]; rfl
  rw [e, if_neg (by omega)]; simp
theorem Bhg (p : List UInt8) (a n : Nat) (h : n ≤ 330000) : okB (Acu p a n) n := ⟨h, Nq p a n, fun k hk _ => by rw [Bmc, if_neg (by omega)]⟩
end Go.Lv
set_option linter.unusedVariables false
set_option linter.unusedSimpArgs false
namespace Go.Pl
open Go Go.Lv
theorem Bj2 (b : List UInt8) (hb : b.length < 4611686018427387904) : ∀ (j q : Nat), j ≤ b.length → j < q → Il b q (leU (b.drop j)) ((j : Int) - 1) = some (leU b)
 | 0, q + 1, _, _ => by
  rw [Il, Ro, if_neg (by rw [Dt]; simp)]
  simp [Yo, Ahf]
 | j + 1, q + 1, hj, hq => by
  rw [Il, Ro, if_pos (by rw [Dt]; simp), show ((j + 1 : Nat) : Int) - 1 = (j : Int) by omega, Dk (by omega), Aa, Ce (by omega) (by omega)]
  have h : Af (Bo (256 : UInt64) (leU (b.drop (j + 1)))) (Ad b[j] : UInt64) = leU (b.drop j) := by
   rw [Ad1, Adf, Ao6, drop_cons (n := j) (by omega), leU, leU, Eh, UInt64.ofNat_add, UInt64.ofNat_mul]
   exact UInt64.add_comm _ _
  rw [h]
  exact Bj2 b hb j q (by omega) (by omega)
theorem Bcy (b : List UInt8) (hb : b.length < 4611686018427387904) : Ah b = some (leU b) := by
 have h := Bj2 b hb b.length Bc (Nat.le_refl _) (by have := Ay; omega)
 rw [Ah, Ye, Yq]
 have e : Ao (Ac b) 1 = (b.length : Int) - 1 := Ce (by unfold Ac; omega) (by unfold Ac; omega)
 rw [e, ← h, List.drop_length]; rfl
theorem Bk1 {n c : UInt64} {i : Nat} (hn : n.toNat < 2 ^ i) (hc : c.toNat * 2 ^ i < 18446744073709551616) : gor n (Ff c i) = UInt64.ofNat (n.toNat + c.toNat * 2 ^ i) := by
 rw [Boo]; apply UInt64.toNat_inj.1
 rw [UInt64.toNat_or, Ajl, Nat.mod_eq_of_lt hc, Nat.mul_comm, Nat.or_comm, ← Nat.two_pow_add_eq_or_of_lt hn, UInt64.toNat_ofNat', Nat.mod_eq_of_lt, Nat.add_comm, Nat.mul_comm]
 have h := Nat.two_pow_add_eq_or_of_lt hn c.toNat
 have h2 : 2 ^ i * c.toNat + n.toNat < 2 ^ 64 := by
  rw [h]
  exact Nat.or_lt_two_pow (by rw [Nat.mul_comm]; simpa using hc) n.toNat_lt
 rw [Nat.add_comm]; first | exact h2 | (rw [Nat.mul_comm]; exact h2)
theorem Ay6 (b : List UInt8) (hb : b.length ≤ 8) : ∀ (j i q : Nat), i + j = b.length → j < q → Ze b q (leU (b.take i)) (i : Int) = some (leU b, 0)
 | 0, i, q + 1, hi, _ => by
  rw [Ze, Aho, if_neg (by rw [Ae, Ac]; simp; omega), show i = b.length by omega, List.take_length]; rfl
 | j + 1, i, q + 1, hi, hq => by
  have hlt : i < b.length := by omega
  rw [Ze, Aho, if_pos (by rw [Ae, Ac]; simp; omega), Dk hlt, Aa, Hs (by omega) (by omega), Cu (by rw [Dt]; simp; omega), Aa, Ag (by omega) (by omega)]
  have h : gor (leU (b.take i)) (Ff (Ad b[i] : UInt64) (GI.toZ ((8 : Int) * (i : Int))).toNat) = leU (b.take (i + 1)) := by
   have e : (GI.toZ ((8 : Int) * (i : Int))).toNat = 8 * i := by show ((8 : Int) * (i : Int)).toNat = _; omega
   have e2 : (2 : Nat) ^ (8 * i) = 256 ^ i := by rw [Nat.pow_mul]
   have h1 := Az6 (b.take i)
   rw [List.length_take, Nat.min_eq_left (by omega)] at h1
   have h3 := b[i].toNat_lt
   have hle : (256 : Nat) ^ (i + 1) ≤ 256 ^ 8 := Nat.pow_le_pow_right (by omega) (by omega)
   rw [Nat.pow_succ] at hle
   have h4 : (Ad b[i] : UInt64).toNat = b[i].toNat := by rw [Ao6, UInt64.toNat_ofNat']; omega
   have h5 : b[i].toNat * 256 ^ i < 18446744073709551616 := by
    have : b[i].toNat * 256 ^ i < 256 * 256 ^ i := Nat.mul_lt_mul_of_pos_right (by simpa using h3) (Nat.pow_pos (by omega))
    simp at hle; omega
   rw [e, Bk1 (by rw [Ahy (by simp; omega), e2]; exact h1) (by rw [h4, e2]; exact h5), Ahy (by simp; omega), h4, e2, Ajt hlt]
   rw [leU, Auo]
   simp only [Eh, List.length_take, Nat.min_eq_left (Nat.le_of_lt hlt), Nat.mul_zero, Nat.add_zero]
   rw [Nat.mul_comm]
  rw [h]
  exact Ay6 b hb j (i + 1) q (by omega) (by omega)
theorem Bb7 (b : List UInt8) (h1 : 1 ≤ b.length) (h2 : b.length ≤ 8) : Anf b = some (leU b, 0) := by
 have h := Ay6 b h2 b.length 0 Bc (by omega) (by have := Ay; omega)
 rw [Anf, Amh, if_neg (by simp [Ae, Bb, Ac]; omega), Amr]
 exact h
def part (b : List UInt8) (at' w : Nat) : List UInt8 := (b.take (at' + w)).drop at'
theorem Db {b : List UInt8} {a w : Nat} (h : a + w ≤ b.length) : (part b a w).length = w := by simp [part]; omega
theorem Axv (b : List UInt8) (a w : Nat) (h1 : 1 ≤ w) (h2 : w ≤ 8) (h3 : a + w ≤ b.length) (hb : b.length < 4611686018427387904) : Ajn b (a : Int) (w : Int) = some (leU (part b a w), 0) := by
 rw [Ajn, if_neg (by simp [Ae, Bb]; omega), if_neg (by rw [Bb, Ce (by unfold Ac; omega) (by unfold Ac; omega), Ac]; simp; omega), Ag (by omega) (by omega), Ak7 (by omega) (by omega) (by omega), Aa]
 rw [show ((a : Int) + (w : Int)).toNat = a + w by omega, show (a : Int).toNat = a by omega]
 rw [Bb7 _ (by rw [show ((b.take (a + w)).drop a).length = _ from Db h3]; exact h1) (by rw [show ((b.take (a + w)).drop a).length = _ from Db h3]; exact h2), Aa]; rfl
theorem Asl (w : Nat) (hw : w ≤ 1000) : ∀ (j i q : Nat) (n : UInt64) (acc : List UInt8), i + j = w → j < q → acc.length + j ≤ 1000000 → Ei (w : Int) q n (i : Int) acc = some (acc ++ leB n.toNat j)
 | 0, i, q + 1, n, acc, hi, _, _ => by
  rw [Ei, Jc, if_neg (by rw [Ae]; simp; omega)]
  simp [Qh, Zn, leB]
 | j + 1, i, q + 1, n, acc, hi, hq, ha => by
  rw [Ei, Jc, if_pos (by rw [Ae]; simp; omega)]
  have e : (Ad (Zr n (256 : UInt64)) : UInt8) = UInt8.ofNat n.toNat := by
   rw [Akw, Ba0]; apply UInt8.toNat_inj.1
   rw [UInt8.toNat_ofNat', UInt8.toNat_ofNat', UInt64.toNat_mod]
   show n.toNat % 256 % 256 = _
   omega
  have e2 : (Cw n (256 : UInt64)).toNat = n.toNat / 256 := by rw [Aq0, UInt64.toNat_div]; rfl
  rw [Fc (by simp; omega), Aa, Ag (by omega) (by omega), e]
  have h := Asl w hw j (i + 1) q (Cw n 256) (acc ++ [UInt8.ofNat n.toNat]) (by omega) (by omega) (by simp; omega)
  rw [e2] at h
  rw [show ((i : Int) + 1) = ((i + 1 : Nat) : Int) by omega, h, leB]; simp
theorem Au5 (n : UInt64) (w : Nat) (hw : w ≤ 1000) : Cz n (w : Int) = some (leB n.toNat w) := by
 rw [Cz, Px, Pr]
 have h := Asl w hw w 0 Bc n [] (by omega) (by have := Ay; omega) (by simp; omega)
 simpa using h
theorem An3 {α : Type} {l m : List α} {x y : α} {i : Nat} (h : l.length = i) : (l ++ x :: m).set i y = l ++ y :: m := by subst h; simp
theorem Ax8 (n : UInt64) (l4 : List UInt8) (w : Nat) (hl : l4.length = w) (hw : w ≤ 8) : ∀ (j i q : Nat), i + j = w → j < q → Za n l4 q (i : Int) (leB n.toNat i ++ List.replicate j 0) = some (leB n.toNat w, 0)
 | 0, i, q + 1, hi, _ => by
  rw [Za, Ahv, if_neg (by rw [Ae, Ac]; simp; omega)]
  obtain rfl : i = w := by omega
  simp [Anb, As1]
 | j + 1, i, q + 1, hi, hq => by
  have hlen : (leB n.toNat i ++ List.replicate (j + 1) 0).length = i + (j + 1) := by simp [Pe]
  rw [Za, Ahv, if_pos (by rw [Ae, Ac]; simp; omega), Hs (by omega) (by omega), Cu (by rw [Dt]; simp; omega), Aa, Dk (by rw [hlen]; omega), Aa, Wu _ (by rw [hlen]; omega), Aa, Ag (by omega) (by omega)]
  have e : (Ad (Cr n (GI.toZ ((8 : Int) * (i : Int))).toNat) : UInt8) = UInt8.ofNat (n.toNat / 256 ^ i) := by
   have e : (GI.toZ ((8 : Int) * (i : Int))).toNat = 8 * i := by show ((8 : Int) * (i : Int)).toNat = _; omega
   rw [e, Akw, Ad4, Nat.pow_mul]
  rw [e, List.replicate_succ, An3 (Pe _ _)]
  have h := Ax8 n l4 w hl hw j (i + 1) q (by omega) (by omega)
  rw [Bbj] at h
  simpa using h
theorem Bpt (n : UInt64) (w : Nat) (h1 : 1 ≤ w) (h2 : w ≤ 8) (h : n.toNat < 256 ^ w) : Ate n (w : Int) = some true := by
 rw [Ate]
 by_cases h8 : w = 8
 ·subst h8; rw [if_pos (by rw [Be]; rfl)]
 ·rw [if_neg (by rw [Be]; simp; omega), Hs (by omega) (by omega), Cu (by rw [Dt]; simp; omega), Aa]
  have e : (GI.toZ ((8 : Int) * (w : Int))).toNat = 8 * w := by show ((8 : Int) * (w : Int)).toNat = _; omega
  rw [e, Atj]
  have : Cr n (8 * w) = 0 := by
   apply UInt64.toNat_inj.1
   rw [Ad4, Nat.pow_mul]
   exact Nat.div_eq_of_lt h
  rw [this]; rfl
theorem Bbx (n : UInt64) (w : Nat) (h1 : 1 ≤ w) (h2 : w ≤ 8) (h : n.toNat < 256 ^ w) : Am0 n (w : Int) = some (leB n.toNat w, 0) := by
 rw [Am0, Anc, if_neg (by simp [Ae, Bb]; omega), Bpt n w h1 h2 h, Aa, if_neg (by simp), Awn (by omega) (by omega), Aa, Cu (by rw [Be]; simp), Aa, Ams]
 have h := Ax8 n (List.replicate (w : Int).toNat 0) w (by simp) h2 w 0 Bc (by omega) (by have := Ay; omega)
 simpa [leB] using h
end Go.Pl
set_option linter.unusedVariables false
set_option linter.unusedSimpArgs false
namespace Go.Pl
open Go Go.Lv
theorem Bdw (n : Nat) (h : n < 4611686018427387904) : Ik (n : Int) (7 : Int) = ((n % 8 : Nat) : Int) := by
 have e : Ik (n : Int) (7 : Int) = wrap64 ((BitVec.ofInt 64 (n : Int) &&& BitVec.ofInt 64 7).toNat : Int) := rfl
 rw [e, BitVec.toNat_and, BitVec.toNat_ofInt, BitVec.toNat_ofInt]
 have h1 : ((n : Int) % ((2 ^ 64 : Nat) : Int)).toNat = n := by omega
 have h2 : ((7 : Int) % ((2 ^ 64 : Nat) : Int)).toNat = 2 ^ 3 - 1 := by decide
 rw [h1, h2, Nat.and_two_pow_sub_one_eq_mod, By (by omega) (by omega)]
theorem Bsn (n : Nat) : Bam (n : Int) (GI.toZ (3 : UInt64)).toNat = ((n / 8 : Nat) : Int) := by
 have e : Bam (n : Int) (GI.toZ (3 : UInt64)).toNat = (n : Int).fdiv 8 := rfl
 rw [e, Int.fdiv_eq_ediv_of_nonneg _ (by omega)]; omega
theorem Bti {t : Nat} (h : t ≤ 8) : Ao (Ff (1 : UInt8) t) (1 : UInt8) = UInt8.ofNat (2 ^ t - 1) := by
 have : t = 0 ∨ t = 1 ∨ t = 2 ∨ t = 3 ∨ t = 4 ∨ t = 5 ∨ t = 6 ∨ t = 7 ∨ t = 8 := by omega
 rcases this with rfl | rfl | rfl | rfl | rfl | rfl | rfl | rfl | rfl <;> decide
theorem bitsOf (c : UInt8) (off t : Nat) (h : t ≤ 8) : (Ik (Cr c off) (Ao (Ff (1 : UInt8) t) (1 : UInt8))).toNat = c.toNat / 2 ^ off % 2 ^ t := by
 have hp : 2 ^ t ≤ 2 ^ 8 := Nat.pow_le_pow_right (by omega) h
 rw [Bti h, Bpp, UInt8.toNat_and, Bgm, UInt8.toNat_ofNat', Nat.mod_eq_of_lt (by have := Nat.pow_pos (n := t) (show 0 < 2 by omega); omega), Nat.and_two_pow_sub_one_eq_mod]
theorem Aws {p : List UInt8} {k : Nat} (h : k < p.length) : Aj p (k : Int) = some (p.getD k 0) := by
 rw [Dk h]; simp [List.getD_eq_getElem?_getD, h]
def Ve (p : List UInt8) (a n : Nat) : UInt64 := UInt64.ofNat (Bw p a n)
theorem Abe (p : List UInt8) (a n : Nat) (h : n ≤ 64) : (Ve p a n).toNat = Bw p a n := by
 have h1 := Rm p n a
 have h2 : 2 ^ n ≤ 2 ^ 64 := Nat.pow_le_pow_right (by omega) h
 rw [Ve, UInt64.toNat_ofNat', Nat.mod_eq_of_lt (by omega)]
theorem Ba1 (p : List UInt8) (N : Int) (a n : Nat) (hn : n ≤ 64) (ha : a + n ≤ 8 * p.length) (hp : p.length ≤ 1000000) : ∀ (j h q : Nat), h + j = n → j < q → Ad6 (a : Int) (n : Int) p N q (Ve p a h) (h : Int) = some (Ve p a n)
 | j, h, q + 1, hj, hq => by
  rw [Ad6, Al9]
  by_cases hlt : h < n
  ·have e1 : Af (a : Int) (h : Int) = ((a + h : Nat) : Int) := by rw [Ag (by omega) (by omega)]; omega
   have e2 : Gt (Ao (n : Int) (h : Int)) (Ao (8 : Int) (((a + h) % 8 : Nat) : Int)) = ((min (n - h) (8 - (a + h) % 8) : Nat) : Int) := by
    rw [Ai5, Ce (by omega) (by omega), Ce (by omega) (by omega)]; omega
   have hm : (a + h) / 8 < p.length := by omega
   rw [if_pos (by rw [Ae]; simp; omega), e1, Bsn, Aws hm, Aa, Bdw _ (by omega), Cu (by rw [Dt]; simp; omega), Aa, e2, Cu (by rw [Dt]; simp), Aa, Cu (by rw [Dt]; simp), Aa]
   generalize hT : min (n - h) (8 - (a + h) % 8) = T
   have hT8 : T ≤ 8 := by omega
   have hT1 : 1 ≤ T := by omega
   have hb : (a + h) % 8 + T ≤ 8 := by omega
   have hv := Arp p (a + h) T hb
   have z1 : (GI.toZ (((a + h) % 8 : Nat) : Int)).toNat = (a + h) % 8 := rfl
   have z2 : (GI.toZ ((T : Nat) : Int)).toNat = T := rfl
   have z3 : (GI.toZ ((h : Nat) : Int)).toNat = h := rfl
   rw [z1, z2, z3]
   have hx : (Ad (Ik (Cr (p.getD ((a + h) / 8) 0) ((a + h) % 8)) (Ao (Ff (1 : UInt8) T) (1 : UInt8))) : UInt64).toNat = Bw p (a + h) T := by
    rw [Ao6, UInt64.toNat_ofNat', bitsOf _ _ _ hT8, ← hv]
    have := Rm p T (a + h)
    have h2 : 2 ^ T ≤ 2 ^ 8 := Nat.pow_le_pow_right (by omega) hT8
    omega
   have hlt2 := Rm p (h + T) a
   rw [Af6] at hlt2
   have h64 : 2 ^ (h + T) ≤ 2 ^ 64 := Nat.pow_le_pow_right (by omega) (by omega)
   have hor : gor (Ve p a h) (Ff (Ad (Ik (Cr (p.getD ((a + h) / 8) 0) ((a + h) % 8)) (Ao (Ff (1 : UInt8) T) (1 : UInt8))) : UInt64) h) = Ve p a (h + T) := by
    rw [Bk1 (by rw [Abe p a h (by omega)]; exact Rm p h a) (by rw [hx, Nat.mul_comm]; omega), hx, Abe p a h (by omega), Ve, Af6, Nat.mul_comm (2 ^ h)]
   rw [hor, Ag (by omega) (by omega), show (h : Int) + ((T : Nat) : Int) = ((h + T : Nat) : Int) by omega]
   exact Ba1 p N a n hn ha hp (j - T) (h + T) q (by omega) (by omega)
  ·rw [if_neg (by rw [Ae]; simp; omega), show h = n by omega]; rfl
theorem get_eq (p : List UInt8) (N : Int) (a n : Nat) (hn : n ≤ 64) (ha : a + n ≤ 8 * p.length) (hp : p.length ≤ 1000000) : Aqv p N (a : Int) (n : Int) = some (Ve p a n) := by
 have := Ba1 p N a n hn ha hp n 0 Bc (by omega) (by have := Ay; omega)
 exact this
theorem Afu {p : List UInt8} {n : Nat} (h : okB p n) : Qp p (n : Int) = some 0 := by
 obtain ⟨h1, h2, h3⟩ := h
 have e7 : Af (n : Int) 7 = ((n + 7 : Nat) : Int) := by rw [Ag (by omega) (by omega)]; omega
 rw [Qp, e7, Bsn, if_neg (by simp [Ae, Bb, Au, Ac, h2]; omega), Bdw _ (by omega)]
 by_cases hz : n % 8 = 0
 ·rw [if_neg (by rw [Bb]; simp; omega)]
 ·have el : Ao (Ac p) 1 = ((p.length - 1 : Nat) : Int) := by rw [Ac, Ce (by omega) (by omega)]; omega
  rw [if_pos (by rw [Bb]; simp; omega), el, Aws (by omega), Aa, Cu (by rw [Dt]; simp; omega), Aa]
  have z : (GI.toZ ((n % 8 : Nat) : Int)).toNat = n % 8 := rfl
  have hs : Cr (p.getD (p.length - 1) 0) (n % 8) = 0 := by
   apply UInt8.toNat_inj.1
   rw [Bgm]
   have hv := Arp p n (8 - n % 8) (by omega)
   have h0 : Bw p n (8 - n % 8) = 0 := Ayd _ _ fun k hk => h3 _ (by omega) (by omega)
   rw [h0, show n / 8 = p.length - 1 by omega] at hv
   have hlt : (p.getD (p.length - 1) 0).toNat / 2 ^ (n % 8) < 2 ^ (8 - n % 8) := by
    have := (p.getD (p.length - 1) 0).toNat_lt
    rw [Nat.div_lt_iff_lt_mul (Nat.pow_pos (by omega)), ← Nat.pow_add, show 8 - n % 8 + n % 8 = 8 by omega]; simpa using this
   rw [Nat.mod_eq_of_lt hlt] at hv
   exact hv.symm
  rw [z, hs, if_neg (by rw [Bfp]; simp)]
theorem Arm {p : List UInt8} {N : Nat} (h : okB p N) (a n : Nat) (hn : n ≤ 64) : Zs p (N : Int) (a : Int) (n : Int) = some (if N < a + n then (0, 24) else (Ve p a n, 0)) := by
 obtain ⟨h1, h2, h3⟩ := h
 rw [Zs, Afu ⟨h1, h2, h3⟩, Aa, if_neg (by rw [Au]; simp), if_neg (by simp [Ae, Bb]; omega), Ce (by omega) (by omega)]
 by_cases hl : N < a + n
 ·rw [if_pos (by rw [Bb]; simp; omega), if_pos hl]
 ·rw [if_neg (by rw [Bb]; simp; omega), get_eq p N a n hn (by omega) (by omega), Aa, if_neg hl]
end Go.Pl
set_option linter.unusedVariables false
set_option linter.unusedSimpArgs false
namespace Go.Pl
open Go Go.Lv
theorem Btv (c : Nat) (h : c < 4611686018427387904) : Cw (c : Int) (2 : Int) = ((c / 2 : Nat) : Int) := by
 rw [Aer, Int.tdiv_eq_ediv_of_nonneg (by omega), By (by omega) (by omega)]; omega
theorem Bth (c : Nat) (h : c < 4611686018427387904) : Cw (c : Int) (8 : Int) = ((c / 8 : Nat) : Int) := by
 rw [Aer, Int.tdiv_eq_ediv_of_nonneg (by omega), By (by omega) (by omega)]; omega
theorem Bkz (c : Nat) : Kf (c : Int) (8 : Int) = ((c % 8 : Nat) : Int) := by rw [Kf, Int.tmod_eq_emod_of_nonneg (by omega)]; omega
theorem Btu (c : Nat) : Kf (c : Int) (2 : Int) = ((c % 2 : Nat) : Int) := by rw [Kf, Int.tmod_eq_emod_of_nonneg (by omega)]; omega
theorem Bga (i c : Nat) (hc : c < 256) : ∀ (j k q : Nat), k + j = i % 8 → j < q → Ij (i : Int) q ((c / 2 ^ k : Nat) : Int) (k : Int) = some (((c / 2 ^ (i % 8) % 2 : Nat) : Int))
 | 0, k, q + 1, hk, _ => by
  rw [Ij, Rb, Bkz, if_neg (by rw [Ae]; simp; omega), Yk, Ahh, Btu, show k = i % 8 by omega]
 | j + 1, k, q + 1, hk, hq => by
  have hle : c / 2 ^ k ≤ c := Nat.div_le_self _ _
  rw [Ij, Rb, Bkz, if_pos (by rw [Ae]; simp; omega), Btv _ (by omega), Ag (by omega) (by omega), Nat.div_div_eq_div_mul, ← Nat.pow_succ]
  exact Bga i c hc j (k + 1) q (by omega) (by omega)
theorem Aro (p : List UInt8) (N : Int) (i : Nat) (h : i / 8 < p.length) (hi : i < 4611686018427387904) : Hq p N (i : Int) = some ((Jj p i : Nat) : Int) := by
 have hc := (p.getD (i / 8) 0).toNat_lt
 have := Bga i (p.getD (i / 8) 0).toNat (by simpa using hc) (i % 8) 0 Bc (by omega) (by have := Ay; omega)
 rw [Hq, Yn, Bth _ hi, Aws h, Aa, Afy, Yp]
 simpa [Jj] using this
theorem Aw7 (p : List UInt8) (N : Int) (a n : Nat) (ha : a + n ≤ 8 * p.length) (hp : p.length ≤ 1000000) : ∀ (j q : Nat), j ≤ n → j < q → Fo (a : Int) p N q (Ve p (a + j) (n - j)) ((j : Int) - 1) = some (Ve p a n)
 | 0, q + 1, _, _ => by
  rw [Fo, Ln, if_neg (by rw [Dt]; simp)]; rfl
 | j + 1, q + 1, hj, hq => by
  have hb := Xs p (a + j)
  rw [Fo, Ln, show ((j + 1 : Nat) : Int) - 1 = (j : Int) by omega, if_pos (by rw [Dt]; simp), Ag (a := (a : Int)) (by omega) (by omega), show (a : Int) + (j : Int) = ((a + j : Nat) : Int) by omega, Aro p N (a + j) (by omega) (by omega), Aa, Ce (by omega) (by omega)]
  have e : Af (Bo (2 : UInt64) (Ve p (a + (j + 1)) (n - (j + 1)))) (Ad ((Jj p (a + j) : Nat) : Int) : UInt64) = Ve p (a + j) (n - j) := by
   rw [Ad1, Adf, Zo, Ve, Ve, show n - j = (n - (j + 1)) + 1 by omega, Bw, show a + j + 1 = a + (j + 1) by omega, UInt64.ofNat_add, UInt64.ofNat_mul]
   exact UInt64.add_comm _ _
  rw [e]
  exact Aw7 p N a n ha hp j q (by omega) (by omega)
theorem Aps (p : List UInt8) (N : Int) (a n : Nat) (ha : a + n ≤ 8 * p.length) (hp : p.length ≤ 1000000) : Lj p N (a : Int) (n : Int) = some (Ve p a n) := by
 have := Aw7 p N a n ha hp n Bc (Nat.le_refl _) (by have := Ay; omega)
 have hz : Ve p (a + n) (n - n) = 0 := by rw [Nat.sub_self]; rfl
 rw [hz] at this
 rw [Lj, So, Tg, Ce (by omega) (by omega)]
 exact this
theorem Bgb (bit : Int) (N : Nat) (l : List UInt8) : ∀ (j k q : Nat), k + j = N % 8 → j < q → Hj bit (N : Int) l q ((2 ^ k : Nat) : Int) (k : Int) = Ou bit ((2 ^ (N % 8) : Nat) : Int) (N : Int) l
 | 0, k, q + 1, hk, _ => by
  rw [Hj, Pd, Bkz, if_neg (by rw [Ae]; simp; omega), show k = N % 8 by omega]
 | j + 1, k, q + 1, hk, hq => by
  have hp : 2 ^ k ≤ 2 ^ 8 := Nat.pow_le_pow_right (by omega) (by omega)
  have e : Bo ((2 ^ k : Nat) : Int) 2 = ((2 ^ (k + 1) : Nat) : Int) := by
   rw [Nat.pow_succ]
   generalize 2 ^ k = K at *
   rw [Hs (by omega) (by omega)]; omega
  rw [Hj, Pd, Bkz, if_pos (by rw [Ae]; simp; omega), e, Ag (by omega) (by omega)]
  exact Bgb bit N l j (k + 1) q (by omega) (by omega)
theorem Av3 (p : List UInt8) (a n j : Nat) (h : j < (n + 7) / 8) : (Acu p a n)[j]'(by rw [Nq]; exact h) = UInt8.ofNat (Bw p (a + 8 * j) (min 8 (n - 8 * j))) := by simp [Acu]
theorem Ba6 (p : List UInt8) (a t : Nat) (h : t ≤ 8) : Bw p a t < 256 := by
 have h1 := Rm p t a
 have h2 : 2 ^ t ≤ 2 ^ 8 := Nat.pow_le_pow_right (by omega) h
 omega
def room (p : List UInt8) (a n : Nat) : List UInt8 := if n % 8 = 0 then Acu p a n ++ [0] else Acu p a n
theorem Xt (p : List UInt8) (a n : Nat) : (room p a n).length = n / 8 + 1 := by
 rw [room]; split <;> simp [Nq] <;> omega
theorem Bdv (p : List UInt8) (a n j : Nat) (h : j < n / 8 + 1) : (room p a n)[j]'(by rw [Xt]; exact h) = UInt8.ofNat (Bw p (a + 8 * j) (min 8 (n - 8 * j))) := by
 have h0 : (room p a n)[j]? = some (UInt8.ofNat (Bw p (a + 8 * j) (min 8 (n - 8 * j)))) := by
  rw [room]
  split
  ·by_cases hj : j < (n + 7) / 8
   ·rw [List.getElem?_append_left (by rw [Nq]; exact hj), List.getElem?_eq_getElem (by rw [Nq]; exact hj), Av3 p a n j hj]
   ·rw [List.getElem?_append_right (by rw [Nq]; omega), Nq, show j - (n + 7) / 8 = 0 by omega, show n - 8 * j = 0 by omega]; rfl
  ·rw [List.getElem?_eq_getElem (by rw [Nq]; omega), Av3 p a n j (by omega)]
 rw [List.getElem?_eq_getElem (by rw [Xt]; exact h)] at h0
 exact Option.some.inj h0
theorem Bbs (p : List UInt8) (a n T : Nat) (h1 : 1 ≤ T) (h : n % 8 + T ≤ 8) : (room p a n).set (n / 8) (UInt8.ofNat (Bw p (a + 8 * (n / 8)) (n % 8 + T))) = Acu p a (n + T) := by
 apply List.ext_getElem (by rw [List.length_set, Xt, Nq]; omega)
 intro j g1 g2
 rw [List.length_set, Xt] at g1
 rw [List.getElem_set, Av3 p a (n + T) j (by rw [Nq] at g2; exact g2)]
 split
 ·rename_i e; subst e; rw [show min 8 (n + T - 8 * (n / 8)) = n % 8 + T by omega]
 ·rw [Bdv p a n j g1, show min 8 (n - 8 * j) = 8 by omega, show min 8 (n + T - 8 * j) = 8 by omega]
theorem Ayr (p : List UInt8) (a n : Nat) : (room p a n)[n / 8]'(by rw [Xt]; omega) = UInt8.ofNat (Bw p (a + 8 * (n / 8)) (n % 8)) := by
 rw [Bdv p a n _ (by omega), show min 8 (n - 8 * (n / 8)) = n % 8 by omega]
theorem Bkf (p : List UInt8) (a n : Nat) (hn : n ≤ 400000) : Pn (Acu p a n) (n : Int) ((Jj p (a + n) : Nat) : Int) = some (Acu p a (n + 1), ((n + 1 : Nat) : Int)) := by
 have hb := Xs p (a + n)
 have hp : 2 ^ (n % 8) ≤ 2 ^ 7 := Nat.pow_le_pow_right (by omega) (by omega)
 have hroom : Pn (Acu p a n) (n : Int) ((Jj p (a + n) : Nat) : Int) = Ot ((Jj p (a + n) : Nat) : Int) (n : Int) (room p a n) := by
  rw [Pn, Ww, Bkz, room]
  by_cases h0 : n % 8 = 0
  ·rw [if_pos (by rw [Be, h0]; rfl), Fc (by rw [Nq]; simp; omega), Aa, if_pos h0]
  ·rw [if_neg (by rw [Be]; simp; omega), if_neg h0]
 have hl := Bgb ((Jj p (a + n) : Nat) : Int) n (room p a n) (n % 8) 0 Bc (by omega) (by have := Ay; omega)
 rw [hroom, Ot, Xe, Xa]
 refine Eq.trans hl ?_
 have hg : Aj (room p a n) ((n / 8 : Nat) : Int) = some (UInt8.ofNat (Bw p (a + 8 * (n / 8)) (n % 8))) := by
  rw [Dk (by rw [Xt]; omega), Ayr]
 have hlt := Ba6 p (a + 8 * (n / 8)) (n % 8 + 1) (by omega)
 have hsn := Ayh p (a + 8 * (n / 8)) (n % 8)
 rw [show a + 8 * (n / 8) + n % 8 = a + n by omega] at hsn
 have hm : Bo ((Jj p (a + n) : Nat) : Int) ((2 ^ (n % 8) : Nat) : Int) = ((2 ^ (n % 8) * Jj p (a + n) : Nat) : Int) := by
  have hle : 2 ^ (n % 8) * Jj p (a + n) ≤ 2 ^ 7 * 1 := Nat.mul_le_mul hp (by omega)
  rw [Bm7, ← Int.natCast_mul, By (by omega) (by rw [Nat.mul_comm]; omega), Nat.mul_comm]
 have hx : Af (UInt8.ofNat (Bw p (a + 8 * (n / 8)) (n % 8))) (Ad (((2 ^ (n % 8) * Jj p (a + n) : Nat) : Int)) : UInt8) = UInt8.ofNat (Bw p (a + 8 * (n / 8)) (n % 8 + 1)) := by
  rw [Bn2, Bln, hsn, UInt8.ofNat_add]
 rw [Ou, Ae4, Bth _ (by omega), hg, Aa, Aa, Aa, hm, hx, Wu _ (by rw [Xt]; omega), Aa, Bbs p a n 1 (by omega) (by omega), Ag (by omega) (by omega)]; rfl
theorem Aqt (p : List UInt8) (N : Int) (a n : Nat) (ha : a + n ≤ 8 * p.length) (hp : p.length ≤ 1000000) (hn : n ≤ 300000) : ∀ (j m q : Nat), m + j = n → j < q → Ee ((a + n : Nat) : Int) p N q ((a + m : Nat) : Int) (m : Int) (Acu p a m) = some (Acu p a n, (n : Int))
 | 0, m, q + 1, hm, _ => by
  rw [Ee, Jo, if_neg (by rw [Ae]; simp; omega), show m = n by omega]; rfl
 | j + 1, m, q + 1, hm, hq => by
  rw [Ee, Jo, if_pos (by rw [Ae]; simp; omega), Aro p N (a + m) (by omega) (by omega), Aa, Bkf p a m (by omega), Aa]
  simp only
  rw [Ag (by omega) (by omega)]
  exact Aqt p N a n ha hp hn j (m + 1) q (by omega) (by omega)
theorem Bbg (p : List UInt8) (N : Int) (a n : Nat) (ha : a + n ≤ 8 * p.length) (hp : p.length ≤ 1000000) (hn : n ≤ 300000) : Va p N (a : Int) ((a + n : Nat) : Int) = some (Acu p a n, (n : Int)) := by
 have := Aqt p N a n ha hp hn n 0 Bc (by omega) (by have := Ay; omega)
 exact this
end Go.Pl
set_option linter.unusedVariables false
set_option linter.unusedSimpArgs false
namespace Go.Pl
open Go Go.Lv
theorem Brk {t : Nat} (h : t ≤ 8) : Ao (Ff (1 : UInt64) t) (1 : UInt64) = UInt64.ofNat (2 ^ t - 1) := by
 have : t = 0 ∨ t = 1 ∨ t = 2 ∨ t = 3 ∨ t = 4 ∨ t = 5 ∨ t = 6 ∨ t = 7 ∨ t = 8 := by omega
 rcases this with rfl | rfl | rfl | rfl | rfl | rfl | rfl | rfl | rfl <;> decide
theorem Btn (v : UInt64) {t : Nat} (h : t ≤ 8) : (Ik v (Ao (Ff (1 : UInt64) t) (1 : UInt64))).toNat = v.toNat % 2 ^ t := by
 have hp : 2 ^ t ≤ 2 ^ 8 := Nat.pow_le_pow_right (by omega) h
 rw [Brk h, At6, UInt64.toNat_and, UInt64.toNat_ofNat', Nat.mod_eq_of_lt (by have := Nat.pow_pos (n := t) (show 0 < 2 by omega); omega), Nat.and_two_pow_sub_one_eq_mod]
theorem or8 {v w i : Nat} (hv : v < 2 ^ i) (hw : w * 2 ^ i < 256) (hi : i < 8) : gor (UInt8.ofNat v) (Ff (UInt8.ofNat w) i) = UInt8.ofNat (v + w * 2 ^ i) := by
 have hp : 2 ^ i ≤ 2 ^ 8 := Nat.pow_le_pow_right (by omega) (by omega)
 have hpos : 0 < 2 ^ i := Nat.pow_pos (by omega)
 have hw2 : w < 256 := Nat.lt_of_le_of_lt (Nat.le_mul_of_pos_right w hpos) hw
 rw [Bqw]; apply UInt8.toNat_inj.1
 have e1 : (UInt8.ofNat v).toNat = v := by rw [UInt8.toNat_ofNat', Nat.mod_eq_of_lt (by omega)]
 have e2 : (UInt8.ofNat w).toNat = w := by rw [UInt8.toNat_ofNat', Nat.mod_eq_of_lt (by omega)]
 rw [UInt8.toNat_or, Bnt, e1, e2, Nat.mod_eq_of_lt hw, Nat.mul_comm w, Nat.or_comm, ← Nat.two_pow_add_eq_or_of_lt hv, UInt8.toNat_ofNat', Nat.add_comm v]
 rw [Nat.mul_comm] at hw
 have hb : 2 ^ i * w + v < 256 := by
  rw [Nat.two_pow_add_eq_or_of_lt hv]
  exact Nat.or_lt_two_pow (n := 8) hw (by omega)
 rw [Nat.mod_eq_of_lt hb]
theorem Blt (p : List UInt8) (a n T : Nat) (h : T ≤ n) (hn : n ≤ 64) : Cr (Ve p a n) T = Ve p (a + T) (n - T) := by
 apply UInt64.toNat_inj.1
 rw [Ad4, Abe p a n hn, Abe p (a + T) (n - T) (by omega)]
 have := Rm p T a
 conv => lhs; rw [show n = T + (n - T) by omega, Af6, Nat.add_mul_div_left _ _ (Nat.pow_pos (by omega)), Nat.div_eq_of_lt this, Nat.zero_add]
theorem Bna (p : List UInt8) (a n T : Nat) (h : T ≤ n) (hn : n ≤ 64) : (Ve p a n).toNat % 2 ^ T = Bw p a T := by
 have := Rm p T a
 rw [Abe p a n hn]
 conv => lhs; rw [show n = T + (n - T) by omega, Af6, Nat.add_mul_mod_self_left, Nat.mod_eq_of_lt this]
theorem Awo (bk : Int → Int → List UInt8 → Option (List UInt8 × Int × Int)) (to' : Int) (p : List UInt8) (N fr : Int) (r6 : UInt64) (a : Nat) : ∀ (j m q : Nat), m + j ≤ 300000 → j ≤ 64 → j < q →
  Nh bk to' p N fr r6 q (Ve p (a + m) j) (j : Int) (m : Int) (Acu p a m) = Afh bk to' p N fr ((m + j : Nat) : Int) (Acu p a (m + j))
 | 0, m, q + 1, _, _, _ => by
  rw [Nh, Afg, if_neg (by rw [Bb]; simp)]; rfl
 | j + 1, m, q + 1, hm, hj, hq => by
  have hroom : Nh bk to' p N fr r6 (q + 1) (Ve p (a + m) (j + 1)) ((j + 1 : Nat) : Int) (m : Int) (Acu p a m) = Afq (Nh bk to' p N fr r6 q) to' fr p N r6 (Ve p (a + m) (j + 1)) ((j + 1 : Nat) : Int) (m : Int) (room p a m) := by
   rw [Nh, Afg, if_pos (by rw [Bb]; simp), Bdw m (by omega), room]
   by_cases h0 : m % 8 = 0
   ·rw [if_pos (by rw [Be, h0]; rfl), Fc (by rw [Nq]; simp; omega), Aa, if_pos h0]
   ·rw [if_neg (by rw [Be]; simp; omega), if_neg h0]
  have hl : Ao (Ac (room p a m)) 1 = ((m / 8 : Nat) : Int) := by
   rw [Ac, Xt, Ce (by omega) (by omega)]; omega
  have e2 : Gt ((j + 1 : Nat) : Int) (Ao (8 : Int) ((m % 8 : Nat) : Int)) = ((min (j + 1) (8 - m % 8) : Nat) : Int) := by
   rw [Ai5, Ce (by omega) (by omega)]; omega
  rw [hroom, Afq, Ak4, Bdw m (by omega), e2, hl]
  generalize hT : min (j + 1) (8 - m % 8) = T
  have hT1 : 1 ≤ T := by omega
  have hT8 : m % 8 + T ≤ 8 := by omega
  have hg : Aj (room p a m) ((m / 8 : Nat) : Int) = some (UInt8.ofNat (Bw p (a + 8 * (m / 8)) (m % 8))) := by
   rw [Dk (by rw [Xt]; omega), Ayr]
  have z1 : (GI.toZ ((m % 8 : Nat) : Int)).toNat = m % 8 := rfl
  have z2 : (GI.toZ ((T : Nat) : Int)).toNat = T := rfl
  have hlt := Ba6 p (a + 8 * (m / 8)) (m % 8 + T) (by omega)
  have hadd := Af6 p (m % 8) T (a + 8 * (m / 8))
  rw [show a + 8 * (m / 8) + m % 8 = a + m by omega] at hadd
  have hbyte : (Ad (Ik (Ve p (a + m) (j + 1)) (Ao (Ff (1 : UInt64) T) (1 : UInt64))) : UInt8) = UInt8.ofNat (Bw p (a + m) T) := by
   rw [Akw, Btn _ (by omega), Bna p (a + m) (j + 1) T (by omega) hj]
  have hnew : gor (UInt8.ofNat (Bw p (a + 8 * (m / 8)) (m % 8))) (Ff (UInt8.ofNat (Bw p (a + m) T)) (m % 8)) = UInt8.ofNat (Bw p (a + 8 * (m / 8)) (m % 8 + T)) := by
   rw [or8 (Rm _ _ _) (by rw [Nat.mul_comm]; omega) (by omega), hadd, Nat.mul_comm (2 ^ (m % 8))]
  rw [hg, z1, z2, hbyte]
  simp only [Aa]
  rw [Cu (by rw [Dt]; simp), Aa, Cu (by rw [Dt]; simp; omega), Aa, hnew, Wu _ (by rw [Xt]; omega), Aa, Bbs p a m T hT1 hT8, Aj3, Ap9, Bdw m (by omega), e2, hT, Cu (by rw [Dt]; simp), Aa, z2, Blt p (a + m) (j + 1) T (by omega) hj, Ce (by omega) (by omega), Ag (by omega) (by omega)]
  have ih := Awo bk to' p N fr r6 a (j + 1 - T) (m + T) q (by omega) (by omega) (by omega)
  rw [show m + T + (j + 1 - T) = m + (j + 1) by omega] at ih
  rw [← ih, show a + m + T = a + (m + T) by omega, show ((j + 1 : Nat) : Int) - ((T : Nat) : Int) = ((j + 1 - T : Nat) : Int) by omega, show (m : Int) + ((T : Nat) : Int) = ((m + T : Nat) : Int) by omega]
theorem Bby (p : List UInt8) (N : Int) (a n : Nat) (ha : a + n ≤ 8 * p.length) (hp : p.length ≤ 1000000) (hn : n ≤ 300000) : ∀ (j m f q : Nat), (f = m ∨ n ≤ f ∧ m = n) → m + j = n → f ≤ n + 64 → j < q → Wq ((a + n : Nat) : Int) p N q ((a + f : Nat) : Int) (m : Int) (Acu p a m) = some (Acu p a n, (n : Int), 0)
 | j, m, f, q + 1, hf, hm, hf2, hq => by
  rw [Wq, Alf]
  by_cases hlt : f < n
  ·obtain rfl : f = m := by omega
   have e1 : Gt (64 : Int) (Ao ((a + n : Nat) : Int) ((a + f : Nat) : Int)) = ((min 64 (n - f) : Nat) : Int) := by
    rw [Ai5, Ce (by omega) (by omega)]; omega
   rw [if_pos (by rw [Ae]; simp; omega), e1, get_eq p N (a + f) _ (by omega) (by omega) hp, Aa, Akt]
   have h1 := Awo (Wq ((a + n : Nat) : Int) p N q) ((a + n : Nat) : Int) p N ((a + f : Nat) : Int) (Ve p (a + f) (min 64 (n - f))) a (min 64 (n - f)) f Bc (by omega) (by omega) (by have := Ay; omega)
   refine Eq.trans h1 ?_
   rw [Afh, Aqp, Ag (by omega) (by omega), show ((a + f : Nat) : Int) + 64 = ((a + (f + 64) : Nat) : Int) by omega]
   exact Bby p N a n ha hp hn (j - min 64 (n - f)) (f + min 64 (n - f)) (f + 64) q (by omega) (by omega) (by omega) (by omega)
  ·rw [if_neg (by rw [Ae]; simp; omega), Akk, Aqh, show m = n by omega]
theorem Brr {p : List UInt8} {N : Nat} (h : okB p N) (a n : Nat) (ha : a + n ≤ N) (hn : n ≤ 300000) : Am1 p (N : Int) (a : Int) ((a + n : Nat) : Int) = some (Acu p a n, (n : Int), 0) := by
 obtain ⟨h1, h2, h3⟩ := h
 have := Bby p N a n (by omega) (by omega) hn n 0 0 Bc (by omega) (by omega) (by omega) (by have := Ay; omega)
 rw [Am1, Amk, Afu ⟨h1, h2, h3⟩, Aa, if_neg (by rw [Au]; simp), if_neg (by simp [Ae, Bb]; omega), Aj6]
 exact this
end Go.Pl
set_option linter.unusedVariables false
set_option linter.unusedSimpArgs false
namespace Go.Pl
open Go Go.Lv
def Fg (p : List UInt8) : Nat → Nat → Nat
 | _, 0 => 0
 | a, m + 1 => if Jj p a = 1 then 1 + Fg p (a + 1) m else 0
theorem Ahx (p : List UInt8) : ∀ (m a : Nat), Fg p a m ≤ m
 | 0, _ => Nat.le_refl _
 | m + 1, a => by rw [Fg]; split <;> have := Ahx p m (a + 1) <;> omega
theorem Bbu (p : List UInt8) : ∀ (m a : Nat), ∃ s, Bw p a m + 1 = 2 ^ (Fg p a m + 1) * s + 2 ^ Fg p a m ∧ (Fg p a m = m → s = 0)
 | 0, a => ⟨0, by simp [Bw, Fg], fun _ => rfl⟩
 | m + 1, a => by
  have hb := Xs p a
  obtain ⟨s, h1, h2⟩ := Bbu p m (a + 1)
  by_cases h : Jj p a = 1
  ·refine ⟨s, ?_, fun e => h2 ?_⟩
   ·rw [Fg, if_pos h, Bw, h, show 1 + Fg p (a + 1) m + 1 = (Fg p (a + 1) m + 1) + 1 by omega, show 1 + Fg p (a + 1) m = Fg p (a + 1) m + 1 by omega, Nat.pow_succ, Nat.pow_succ (n := 2) (m := Fg p (a + 1) m)]
    rw [Nat.pow_succ] at h1
    generalize Bw p (a + 1) m = V at *
    generalize 2 ^ Fg p (a + 1) m = W at *
    have e1 : W * 2 * 2 * s = 2 * (W * 2 * s) := by rw [Nat.mul_right_comm (W * 2) 2 s, Nat.mul_comm]
    omega
   ·rw [Fg, if_pos h] at e; omega
  ·refine ⟨Bw p (a + 1) m, ?_, fun e => ?_⟩
   ·rw [Fg, if_neg h, Bw]; simp; omega
   ·rw [Fg, if_neg h] at e; omega
theorem Bn6 {n t s : Nat} (h : 2 ^ (t + 1) * s + 2 ^ t ≤ 2 ^ n) (ht : t < n) (x : Nat) (hx : x = 2 ^ n - (2 ^ (t + 1) * s + 2 ^ t)) : x &&& (2 ^ (t + 1) * s + 2 ^ t) = 2 ^ t := by
 have hpos : 0 < 2 ^ t := Nat.pow_pos (by omega)
 have hlt : 2 ^ t < 2 ^ (t + 1) := by rw [Nat.pow_succ]; omega
 have e : x = 2 ^ n - ((2 ^ (t + 1) * s + (2 ^ t - 1)) + 1) := by rw [hx]; congr 1; omega
 apply Nat.eq_of_testBit_eq
 intro i
 rw [Nat.testBit_and, e, Nat.testBit_two_pow_sub_succ (by omega), Nat.testBit_two_pow_mul_add _ (by omega), Nat.testBit_two_pow_mul_add _ hlt]
 by_cases hi : i < t + 1
 ·rw [if_pos hi, if_pos hi, Nat.testBit_two_pow_sub_one, Nat.testBit_two_pow]
  by_cases hit : t = i
  ·subst hit; simp; exact ht
  ·have : ¬ i = t := fun e => hit e.symm
   simp [hit]
 ·rw [if_neg hi, if_neg hi, Nat.testBit_two_pow]
  have : ¬ t = i := by omega
  simp [this]
theorem Bly (a : UInt64) : (Avx a).toNat = 18446744073709551615 - a.toNat := by
 have h := a.toNat_lt
 have e : Avx a = UInt64.ofNat (BitVec.ofInt 64 18446744073709551615 ^^^ BitVec.ofInt 64 (a.toNat : Int)).toNat := Gh _
 have h1 : BitVec.ofInt 64 (a.toNat : Int) = a.toBitVec := Azz a
 have h2 : (BitVec.ofInt 64 18446744073709551615 : BitVec 64) = BitVec.allOnes 64 := by decide
 rw [e, UInt64.toNat_ofNat', h1, h2, BitVec.allOnes_xor, BitVec.toNat_not]
 show (18446744073709551616 - 1 - a.toNat) % 18446744073709551616 = 18446744073709551615 - a.toNat
 omega
theorem Bli (a : UInt64) : (Ap2 a).toNat = (18446744073709551616 - a.toNat) % 18446744073709551616 := by
 have h := a.toNat_lt
 have e : Ap2 a = UInt64.ofNat ((0 - (a.toNat : Int)) % 18446744073709551616).toNat := Baf _
 rw [e, UInt64.toNat_ofNat']
 show ((0 - (a.toNat : Int)) % 18446744073709551616).toNat % 18446744073709551616 = _
 omega
def Bsp : List UInt8 := [0, 1, 56, 2, 57, 49, 28, 3, 61, 58, 42, 50, 38, 29, 17, 4, 62, 47, 59, 36, 45, 43, 51, 22, 53, 39, 33, 30, 24, 18, 12, 5, 63, 55, 48, 27, 60, 41, 37, 16, 46, 35, 44, 21, 52, 32, 23, 11, 54, 26, 40, 15, 34, 20, 31, 10, 25, 14, 19, 9, 13, 8, 7, 6]
theorem Bi5 : ∀ t : Fin 64, Aj Bsp (GI.toZ (Cr (Bo (UInt64.ofNat (2 ^ t.val)) (285870213051353865 : UInt64)) (GI.toZ (58 : UInt64)).toNat)) = some (UInt8.ofNat t.val) := by decide +kernel
theorem Bsy (x : UInt64) (t s : Nat) (ht : t < 64) (h : x.toNat + (2 ^ (t + 1) * s + 2 ^ t) = 18446744073709551616) : Ez x = some (t : Int) := by
 have hpos : 0 < 2 ^ t := Nat.pow_pos (by omega)
 have hx : x.toNat = 2 ^ 64 - (2 ^ (t + 1) * s + 2 ^ t) := by show x.toNat = 18446744073709551616 - _; omega
 have hle : 2 ^ t ≤ 2 ^ 63 := Nat.pow_le_pow_right (by omega) (by omega)
 have hne : x ≠ 0 := by
  intro e
  rw [e] at h
  have h' : 2 ^ t * (2 * s + 1) = 2 ^ 64 := by
   rw [Nat.mul_add, Nat.mul_one, ← Nat.mul_assoc, ← Nat.pow_succ]
   show _ = 18446744073709551616
   simpa using h
  have h2 : 2 ^ 64 = 2 ^ t * 2 ^ (64 - t) := by rw [← Nat.pow_add]; congr 1; omega
  rw [h2] at h'
  have h3 := Nat.eq_of_mul_eq_mul_left hpos h'
  rw [show 64 - t = (63 - t) + 1 by omega, Nat.pow_succ] at h3
  omega
 have hx0 : x.toNat ≠ 0 := fun e => hne (UInt64.toNat_inj.1 e)
 have hl : Ik x (Ap2 x) = UInt64.ofNat (2 ^ t) := by
  apply UInt64.toNat_inj.1
  rw [At6, UInt64.toNat_and, Bli, show (18446744073709551616 - x.toNat) % 18446744073709551616 = 2 ^ (t + 1) * s + 2 ^ t by omega, Bn6 (n := 64) (by show _ ≤ 18446744073709551616; omega) ht _ hx, UInt64.toNat_ofNat', Nat.mod_eq_of_lt]
  exact Nat.lt_of_le_of_lt hle (by decide)
 have hb := Bi5 ⟨t, ht⟩
 rw [Ez, if_neg (by rw [Atj]; simpa using hne), hl]
 refine Eq.trans (congrArg (fun o => Option.bind o fun c => some (Ad c : Int)) hb) ?_
 rw [Aa, Afy, UInt8.toNat_ofNat', Nat.mod_eq_of_lt (by show t < 256; omega)]
theorem Bpz (p : List UInt8) (a m : Nat) (hm : m ≤ 48) : Ez (Avx (Ve p a m)) = some ((Fg p a m : Nat) : Int) := by
 obtain ⟨s, h1, h2⟩ := Bbu p m a
 have hle := Ahx p m a
 have hlt := Rm p m a
 have h48 : 2 ^ m ≤ 2 ^ 48 := Nat.pow_le_pow_right (by omega) hm
 have hn : (Avx (Ve p a m)).toNat = 18446744073709551615 - Bw p a m := by rw [Bly, Abe p a m (by omega)]
 have h3 : (281474976710656 : Nat) = 2 ^ 48 := rfl
 refine Bsy _ (Fg p a m) s (by omega) ?_
 rw [hn]; omega
def unS (p : List UInt8) (N a : Nat) : Int × Int × Int :=
 if Fg p a (min 48 (N - a)) < min 48 (N - a) then ((Fg p a (min 48 (N - a)) : Nat), ((a + Fg p a (min 48 (N - a)) + 1 : Nat) : Int), 0) else
 if Fg p a (min 48 (N - a)) = 48 then (48, ((a + 48 : Nat) : Int), 0) else (0, 0, 24)
theorem Bmd {p : List UInt8} {N : Nat} (h : okB p N) (a : Nat) (ha : a < N) : Acl p (N : Int) (a : Int) = some (unS p N a) := by
 have hN := h.1
 have e1 : Gt (48 : Int) (Ao (N : Int) (a : Int)) = ((min 48 (N - a) : Nat) : Int) := by rw [Ai5, Ce (by omega) (by omega)]; omega
 have hle := Ahx p (min 48 (N - a)) a
 rw [Acl, Xm, Afu h, Aa, if_neg (by rw [Au]; simp), if_neg (by rw [Ae]; simp), if_neg (by rw [Dt]; simp; omega), e1, Arm h a _ (by omega), if_neg (by omega), Aa]
 simp only
 rw [Ais, Aig, if_neg (by rw [Au]; simp), Bpz p a _ (by omega), Aa, Aio, Aix, e1, unS]
 by_cases h1 : Fg p a (min 48 (N - a)) < min 48 (N - a)
 ·rw [if_pos (by rw [Ae]; simp; omega), if_pos h1, Ag (a := (a : Int)) (by omega) (by omega), show Af (0 : Int) 1 = 1 by decide, Ag (by omega) (by omega)]
  congr 3; omega
 ·rw [if_neg (by rw [Ae]; simp; omega), if_neg h1, Aia, Ai2]
  by_cases h2 : Fg p a (min 48 (N - a)) = 48
  ·rw [if_pos (by rw [Be, h2]; rfl), if_pos h2, h2, Ag (a := (a : Int)) (by omega) (by omega), Ag (by omega) (by omega)]
   congr 3; omega
  ·rw [if_neg (by rw [Be]; simp; omega), if_neg h2]; rfl
theorem Ayf (p : List UInt8) : ∀ (m a : Nat), Fg p a m < m → Jj p (a + Fg p a m) ≠ 1
 | 0, _, h => by simp [Fg] at h
 | m + 1, a, h => by
  by_cases hb : Jj p a = 1
  ·rw [Fg, if_pos hb] at h ⊢
   have := Ayf p m (a + 1) (by omega)
   rwa [show a + (1 + Fg p (a + 1) m) = a + 1 + Fg p (a + 1) m by omega]
  ·rw [Fg, if_neg hb]; exact hb
theorem Axo (p : List UInt8) : ∀ (m a k : Nat), k < Fg p a m → Jj p (a + k) = 1
 | 0, a, k, h => by simp [Fg] at h
 | m + 1, a, k, h => by
  by_cases hb : Jj p a = 1
  ·rw [Fg, if_pos hb] at h
   cases k with
   | zero => exact hb
   | succ k =>
    have := Axo p m (a + 1) k (by omega)
    rwa [show a + (k + 1) = a + 1 + k by omega]
  ·rw [Fg, if_neg hb] at h; omega
def unR (p : List UInt8) (N a : Nat) : Int × Int := if (unS p N a).2.2 = 0 then ((unS p N a).1, (unS p N a).2.1) else (-1, 0)
theorem Avz {p : List UInt8} {N : Nat} (h : okB p N) (a : Nat) (ha : a < N) : ∀ (j k q : Nat), k + j = Fg p a (min 48 (N - a)) → j < q → Hi (a : Int) p (N : Int) q (k : Int) = some (unR p N a)
 | 0, k, q + 1, hk, _ => by
  obtain ⟨hN, hl, hz⟩ := h
  have hle := Ahx p (min 48 (N - a)) a
  have hk' : k = Fg p a (min 48 (N - a)) := by omega
  have e1 : Af (a : Int) (k : Int) = ((a + k : Nat) : Int) := by rw [Ag (by omega) (by omega)]; omega
  have hend : Oy (a : Int) (k : Int) p (N : Int) = some (unR p N a) := by
   rw [Oy, Ae5, e1]
   by_cases h48 : k = 48
   ·have hu : unS p N a = (48, ((a + 48 : Nat) : Int), 0) := by rw [unS, ← hk', if_neg (by omega), if_pos h48]
    rw [if_pos (by rw [Be, h48]; rfl), unR, hu, h48]; rfl
   ·rw [if_neg (by rw [Be]; simp; omega)]
    by_cases hN2 : N ≤ a + k
    ·have hu : unS p N a = (0, 0, 24) := by rw [unS, ← hk', if_neg (by omega), if_neg h48]
     rw [if_pos (by rw [Dt]; simp; omega), unR, hu]; rfl
    ·have hu : unS p N a = (((k : Nat) : Int), ((a + k + 1 : Nat) : Int), 0) := by rw [unS, ← hk', if_pos (by omega)]
     rw [if_neg (by rw [Dt]; simp; omega), unR, hu, Ag (by omega) (by omega)]; rfl
  rw [Hi, Pg, e1]
  by_cases hc : a + k < N ∧ k < 48
  ·have hb := Xs p (a + k)
   have hs := Ayf p (min 48 (N - a)) a (by omega)
   rw [← hk'] at hs
   rw [if_pos (by simp [Ae]; omega), Aro p _ (a + k) (by omega) (by omega), Aa, if_neg (by rw [Be]; simp; omega), hend]
  ·rw [if_neg (by simp [Ae]; omega), hend]
 | j + 1, k, q + 1, hk, hq => by
  obtain ⟨hN, hl, hz⟩ := h
  have hle := Ahx p (min 48 (N - a)) a
  have hb := Axo p (min 48 (N - a)) a k (by omega)
  have e1 : Af (a : Int) (k : Int) = ((a + k : Nat) : Int) := by rw [Ag (by omega) (by omega)]; omega
  rw [Hi, Pg, e1, if_pos (by simp [Ae]; omega), Aro p _ (a + k) (by omega) (by omega), Aa, hb, if_pos (by decide), Ag (by omega) (by omega)]
  exact Avz ⟨hN, hl, hz⟩ a ha j (k + 1) q (by omega) (by omega)
theorem Bme {p : List UInt8} {N : Nat} (h : okB p N) (a : Nat) (ha : a < N) : Acs p (N : Int) (a : Int) = some (unR p N a) := by
 have hle := Ahx p (min 48 (N - a)) a
 have := Avz h a ha (Fg p a (min 48 (N - a))) 0 Bc (by omega) (by have := Ay; omega)
 exact this
end Go.Pl
set_option linter.unusedVariables false
set_option linter.unusedSimpArgs false
namespace Go.Pl
open Go Go.Lv
theorem Bkn {p : List UInt8} {N a : Nat} (h : Fg p a (min 48 (N - a)) < min 48 (N - a)) : unS p N a = (((Fg p a (min 48 (N - a)) : Nat) : Int), ((a + Fg p a (min 48 (N - a)) + 1 : Nat) : Int), 0) := by rw [unS, if_pos h]
theorem Bl7 {p : List UInt8} {N a : Nat} (h : ¬ Fg p a (min 48 (N - a)) < min 48 (N - a)) (h2 : Fg p a (min 48 (N - a)) = 48) : unS p N a = (48, ((a + 48 : Nat) : Int), 0) := by rw [unS, if_neg h, if_pos h2]
theorem Bk0 {p : List UInt8} {N a : Nat} (h : ¬ Fg p a (min 48 (N - a)) < min 48 (N - a)) (h2 : ¬ Fg p a (min 48 (N - a)) = 48) : unS p N a = (0, 0, 24) := by rw [unS, if_neg h, if_neg h2]
theorem Bh7 {p : List UInt8} {N : Nat} (h : okB p N) (a : Nat) (ha : N ≤ a) : Acl p (N : Int) (a : Int) = some (0, 0, 24) := by
 rw [Acl, Xm, Afu h, Aa, if_neg (by rw [Au]; simp), if_neg (by rw [Ae]; simp), if_pos (by rw [Dt]; simp; omega)]
def rcS (p : List UInt8) (N a k : Nat) : UInt32 × Int × Int :=
 if N ≤ a then (0, 0, 24) else
 if Fg p a (min 48 (N - a)) < min 48 (N - a) then
  (if N < a + Fg p a (min 48 (N - a)) + 1 + k then (0, 0, 24) else (UInt32.ofNat (Fg p a (min 48 (N - a)) * 2 ^ k + Bw p (a + Fg p a (min 48 (N - a)) + 1) k), ((a + Fg p a (min 48 (N - a)) + 1 + k : Nat) : Int), 0))
 else if Fg p a (min 48 (N - a)) = 48 then
  (if N < a + 48 + 32 then (0, 0, 24) else if Bw p (a + 48) 32 / 2 ^ k < 48 then (0, 0, 12) else (UInt32.ofNat (Bw p (a + 48) 32), ((a + 48 + 32 : Nat) : Int), 0))
 else (0, 0, 24)
theorem Ap8 {p : List UInt8} {a n : Nat} (h : n ≤ 32) : (Ad (Ve p a n) : UInt32) = UInt32.ofNat (Bw p a n) := by
 have e : (Ad (Ve p a n) : UInt32) = UInt32.ofNat (Ve p a n).toNat := by simp only [Ad, Ht, Dy]
 rw [e, Abe p a n (by omega)]
theorem Ak0 {n : Nat} (h : n < 4294967296) : (UInt32.ofNat n).toNat = n := by rw [UInt32.toNat_ofNat']; exact Nat.mod_eq_of_lt h
theorem Bct (p : List UInt8) (a : Nat) {n : Nat} (h : n ≤ 32) : Bw p a n < 4294967296 := by
 have h1 := Rm p n a
 have h2 : 2 ^ n ≤ 2 ^ 32 := Nat.pow_le_pow_right (by omega) h
 omega
theorem Bre {q v k : Nat} (hq : q < 48) (hv : v < 2 ^ k) (hk : k ≤ 24) : gor (Ff (Ad (q : Int) : UInt32) k) (UInt32.ofNat v) = UInt32.ofNat (q * 2 ^ k + v) := by
 have hp : 2 ^ k ≤ 2 ^ 24 := Nat.pow_le_pow_right (by omega) hk
 have h1 : q * 2 ^ k ≤ 47 * 2 ^ 24 := Nat.mul_le_mul (by omega) hp
 rw [Bns]; apply UInt32.toNat_inj.1
 rw [UInt32.toNat_or, Avs, Ax3, Ak0 (by omega), Ak0 (n := v) (by omega), Nat.mod_eq_of_lt (by omega), Nat.mul_comm q, ← Nat.two_pow_add_eq_or_of_lt hv, Ak0 (by rw [Nat.mul_comm]; omega)]
theorem Bpm {p : List UInt8} {N : Nat} (h : okB p N) (a k : Nat) (hk : k ≤ 24) : Anp p (N : Int) (a : Int) (k : Int) = some (rcS p N a k) := by
 have hN := h.1
 rw [Anp, Akb, Afu h, Aa, if_neg (by rw [Au]; simp), if_neg (by simp [Ae, Bb]; omega)]
 by_cases ha : N ≤ a
 ·rw [Bh7 h a ha, Aa, rcS, if_pos ha]; rfl
 have hle := Ahx p (min 48 (N - a)) a
 rw [Bmd h a (by omega), Aa]
 by_cases h1 : Fg p a (min 48 (N - a)) < min 48 (N - a)
 ·have hS : rcS p N a k = if N < a + Fg p a (min 48 (N - a)) + 1 + k then (0, 0, 24) else (UInt32.ofNat (Fg p a (min 48 (N - a)) * 2 ^ k + Bw p (a + Fg p a (min 48 (N - a)) + 1) k), ((a + Fg p a (min 48 (N - a)) + 1 + k : Nat) : Int), 0) := by rw [rcS, if_neg ha, if_pos h1]
  rw [Bkn h1, hS]
  generalize Fg p a (min 48 (N - a)) = q at *
  simp only
  rw [if_neg (by rw [Au]; simp), if_neg (by rw [Be]; simp; omega), Afj, Alg, Arm h _ k (by omega), Aa]
  by_cases h2 : N < a + q + 1 + k
  ·rw [if_pos h2, if_pos h2]; rfl
  ·rw [if_neg h2, if_neg h2]
   simp only
   have z : (GI.toZ (k : Int)).toNat = k := rfl
   rw [if_neg (by rw [Au]; simp), if_pos (by rw [Ae]; simp; omega), Cu (by rw [Dt]; simp), Aa, z, Ap8 (by omega), Bre (by omega) (Rm _ _ _) hk, Ag (by omega) (by omega)]; rfl
 ·by_cases h2 : Fg p a (min 48 (N - a)) = 48
  ·have hS : rcS p N a k = if N < a + 48 + 32 then (0, 0, 24) else if Bw p (a + 48) 32 / 2 ^ k < 48 then (0, 0, 12) else (UInt32.ofNat (Bw p (a + 48) 32), ((a + 48 + 32 : Nat) : Int), 0) := by rw [rcS, if_neg ha, if_neg h1, if_pos h2]
   have hg := Arm h (a + 48) 32 (by omega)
   rw [Bl7 h1 h2, hS]
   simp only
   rw [if_neg (by rw [Au]; simp), if_pos (by rw [Be]; rfl), Afj, Alg]
   refine Eq.trans (congrArg (fun o => Option.bind o _) hg) ?_
   rw [Aa]
   by_cases h3 : N < a + 48 + 32
   ·rw [if_pos h3, if_pos h3]; rfl
   ·rw [if_neg h3, if_neg h3]
    simp only
    have z : (GI.toZ (k : Int)).toNat = k := rfl
    have hv := Bct p (a + 48) (n := 32) (by omega)
    rw [if_neg (by rw [Au]; simp), if_neg (by rw [Ae]; simp), Aku, Cu (by rw [Dt]; simp), Aa, Aa, z, Ap8 (by omega), Bol]
    have e : (decide ((48 : UInt32).toNat ≤ (Cr (UInt32.ofNat (Bw p (a + 48) 32)) k).toNat)) = decide (¬ Bw p (a + 48) 32 / 2 ^ k < 48) := by
     rw [Ajf, Ak0 hv]; simp
    rw [e]
    by_cases h4 : Bw p (a + 48) 32 / 2 ^ k < 48
    ·rw [if_pos (by simp [h4]), if_pos h4]
    ·rw [if_neg (by simp; omega), if_neg h4, Ag (by omega) (by omega)]; rfl
  ·rw [Bk0 h1 h2, rcS, if_neg ha, if_neg h1, if_neg h2]; rfl
theorem Awf (k : Nat) (hk : k ≤ 63) : ∀ (j i q : Nat), i + j = k → j < q → Ft (k : Int) q (UInt64.ofNat (2 ^ i)) (i : Int) = some (UInt64.ofNat (2 ^ k))
 | 0, i, q + 1, hi, _ => by
  rw [Ft, Ls, if_neg (by rw [Ae]; simp; omega), show i = k by omega]; rfl
 | j + 1, i, q + 1, hi, hq => by
  have e : Bo (UInt64.ofNat (2 ^ i)) (2 : UInt64) = UInt64.ofNat (2 ^ (i + 1)) := by
   rw [Adf, Nat.pow_succ, UInt64.ofNat_mul]; rfl
  rw [Ft, Ls, if_pos (by rw [Ae]; simp; omega), Ag (by omega) (by omega), e]
  exact Awf k hk j (i + 1) q (by omega) (by omega)
theorem Adl (k : Nat) (hk : k ≤ 63) : Dr (k : Int) = some (UInt64.ofNat (2 ^ k)) :=
 Awf k hk k 0 Bc (by omega) (by have := Ay; omega)
theorem Ah2 {k : Nat} (hk : k ≤ 63) : (UInt64.ofNat (2 ^ k)).toNat = 2 ^ k := by
 have hp : 2 ^ k ≤ 2 ^ 63 := Nat.pow_le_pow_right (by omega) hk
 rw [UInt64.toNat_ofNat', Nat.mod_eq_of_lt (by omega)]
theorem Bpu (v : UInt32) (k : Nat) (hk : k ≤ 24) : Uj v (k : Int) = some ((min 48 (v.toNat / 2 ^ k) : Nat) : Int) := by
 have hpos : 0 < 2 ^ k := Nat.pow_pos (by omega)
 have hv := v.toNat_lt
 rw [Uj, Adl k (by omega), Aa, Cu (by rw [Afp]; simp only [bne_iff_ne, ne_eq, ← UInt64.toNat_inj, Ah2 (show k ≤ 63 by omega)]; simp), Aa]
 have e : (Cw (Ad v : UInt64) (UInt64.ofNat (2 ^ k))).toNat = v.toNat / 2 ^ k := by
  rw [Aq0, UInt64.toNat_div, Hr, Ah2 (by omega), UInt64.toNat_ofNat', Nat.mod_eq_of_lt (by omega)]
 have hle : v.toNat / 2 ^ k ≤ v.toNat := Nat.div_le_self _ _
 have e2 : Gt (48 : UInt64) (Cw (Ad v : UInt64) (UInt64.ofNat (2 ^ k))) = UInt64.ofNat (min 48 (v.toNat / 2 ^ k)) := by
  apply UInt64.toNat_inj.1
  rw [UInt64.toNat_ofNat', Nat.mod_eq_of_lt (by omega)]
  show (if _ then _ else _ : UInt64).toNat = _
  rw [show (GI.toZ (Cw (Ad v : UInt64) (UInt64.ofNat (2 ^ k)))) = ((v.toNat / 2 ^ k : Nat) : Int) by rw [Ht, e], show GI.toZ (48 : UInt64) = 48 from rfl]
  split
  ·rw [e]; omega
  ·show 48 = _; omega
 rw [e2, Ard (by rw [UInt64.toNat_ofNat', Nat.mod_eq_of_lt] <;> omega), UInt64.toNat_ofNat', Nat.mod_eq_of_lt (by omega)]
theorem Bmr {p : List UInt8} {N : Nat} (h : okB p N) (a k : Nat) (hk : k ≤ 24) : We p (N : Int) (a : Int) (k : Int) = some (rcS p N a k) := by
 obtain ⟨hN, hl, hz⟩ := h
 have h : okB p N := ⟨hN, hl, hz⟩
 rw [We, Wv]
 by_cases ha : N ≤ a
 ·rw [if_pos (by rw [Dt]; simp; omega), rcS, if_pos ha]
 have hle := Ahx p (min 48 (N - a)) a
 rw [if_neg (by rw [Dt]; simp; omega), Bme h a (by omega), Aa, unR]
 by_cases h1 : Fg p a (min 48 (N - a)) < min 48 (N - a)
 ·have hS : rcS p N a k = if N < a + Fg p a (min 48 (N - a)) + 1 + k then (0, 0, 24) else (UInt32.ofNat (Fg p a (min 48 (N - a)) * 2 ^ k + Bw p (a + Fg p a (min 48 (N - a)) + 1) k), ((a + Fg p a (min 48 (N - a)) + 1 + k : Nat) : Int), 0) := by rw [rcS, if_neg ha, if_pos h1]
  rw [Bkn h1, hS]
  generalize Fg p a (min 48 (N - a)) = q at *
  rw [if_pos rfl]
  simp only
  rw [if_neg (by rw [Be]; simp; omega), On, Wt, Ce (by omega) (by omega)]
  by_cases h2 : N < a + q + 1 + k
  ·rw [if_pos (by simp [Ae]; omega), if_pos h2]
  ·have hp : 2 ^ k ≤ 2 ^ 24 := Nat.pow_le_pow_right (by omega) hk
   have hm : q * 2 ^ k ≤ 47 * 2 ^ 24 := Nat.mul_le_mul (by omega) hp
   have hv := Rm p k (a + q + 1)
   have e : (Ad (Af (Bo (Ad (q : Int) : UInt64) (UInt64.ofNat (2 ^ k))) (Ve p (a + q + 1) k)) : UInt32) = UInt32.ofNat (q * 2 ^ k + Bw p (a + q + 1) k) := by
    have e1 : Af (Bo (Ad (q : Int) : UInt64) (UInt64.ofNat (2 ^ k))) (Ve p (a + q + 1) k) = UInt64.ofNat (q * 2 ^ k + Bw p (a + q + 1) k) := by
     rw [Ad1, Adf, Zo, Ve, UInt64.ofNat_add, UInt64.ofNat_mul]
    rw [e1]
    have e2 : ∀ x : UInt64, (Ad x : UInt32) = UInt32.ofNat x.toNat := fun x => by simp only [Ad, Ht, Dy]
    rw [e2, UInt64.toNat_ofNat', Nat.mod_eq_of_lt (by omega)]
   rw [if_neg (by simp [Ae]; omega), if_neg h2, Aps p _ _ k (by omega) (by omega), Aa, if_pos (by rw [Ae]; simp; omega), Adl k (by omega), Aa, e, Ag (by omega) (by omega)]; rfl
 ·by_cases h2 : Fg p a (min 48 (N - a)) = 48
  ·have hS : rcS p N a k = if N < a + 48 + 32 then (0, 0, 24) else if Bw p (a + 48) 32 / 2 ^ k < 48 then (0, 0, 12) else (UInt32.ofNat (Bw p (a + 48) 32), ((a + 48 + 32 : Nat) : Int), 0) := by rw [rcS, if_neg ha, if_neg h1, if_pos h2]
   rw [Bl7 h1 h2, hS, if_pos rfl]
   simp only
   rw [if_pos (by rw [Be]; rfl), On, Wt, Ce (by omega) (by omega)]
   by_cases h3 : N < a + 48 + 32
   ·rw [if_pos (by simp [Ae]; omega), if_pos h3]
   ·have hg := Aps p (N : Int) (a + 48) 32 (by omega) (by omega)
    have hv := Bct p (a + 48) (n := 32) (by omega)
    rw [if_neg (by simp [Ae]; omega), if_neg h3]
    refine Eq.trans (congrArg (fun o => Option.bind o _) hg) ?_
    rw [Aa, if_neg (by rw [Ae]; simp), Ap8 (by omega), Bpu _ k hk, Aa, Ak0 hv]
    by_cases h4 : Bw p (a + 48) 32 / 2 ^ k < 48
    ·rw [if_pos (by rw [Ae]; simp; omega), if_pos h4]
    ·rw [if_neg (by rw [Ae]; simp; omega), if_neg h4, Ag (by omega) (by omega)]; rfl
  ·rw [Bk0 h1 h2, rcS, if_neg ha, if_neg h1, if_neg h2]
   have e : (if ((0 : Int), (0 : Int), (24 : Int)).2.2 = 0 then (((0 : Int), (0 : Int), (24 : Int)).1, ((0 : Int), (0 : Int), (24 : Int)).2.1) else ((-1 : Int), (0 : Int))) = (-1, 0) := by decide
   rw [e]; rfl
theorem Bqq {p : List UInt8} {N a k : Nat} {v : UInt32} {n : Int} (h : rcS p N a k = (v, n, 0)) : (a : Int) < n ∧ n ≤ N := by
 unfold rcS at h
 split at h
 ·simp at h
 split at h
 ·split at h
  ·simp at h
  ·simp only [Prod.mk.injEq] at h; omega
 ·split at h
  ·split at h
   ·simp at h
   ·split at h
    ·simp at h
    ·simp only [Prod.mk.injEq] at h; omega
  ·simp at h
end Go.Pl
set_option linter.unusedVariables false
set_option linter.unusedSimpArgs false
namespace Go.Pl
open Go Go.Lv
def okD (k l : Nat) (s t : UInt64) : Prop := k ≤ 24 ∧ l ≤ 24 ∧ s.toNat ≤ 68719476735 ∧ t.toNat ≤ 68719476735
theorem Bdr (a b : UInt64) (h : a.toNat ≤ b.toNat) : Gt a b = a := by
 show (if _ then _ else _) = _
 rw [Ht, Ht, if_neg (by omega)]
theorem Ap5 (a : UInt64) : geq a a = true := by rw [Atj]; simp
theorem Bq2 {k l : Nat} {s t : UInt64} (h : okD k l s t) : Alc (k : Int) (l : Int) s t = some 0 := by
 obtain ⟨h1, h2, h3, h4⟩ := h
 have e1 : Gt (Aoc (k : Int) 0) 24 = (k : Int) := by rw [Ai5, Bew]; omega
 have e2 : Gt (Aoc (l : Int) 0) 24 = (l : Int) := by rw [Ai5, Bew]; omega
 have e3 : Gt s (68719476735 : UInt64) = s := Bdr _ _ (by simpa using h3)
 have e4 : Gt t (68719476735 : UInt64) = t := Bdr _ _ (by simpa using h4)
 have e5 : ∀ a : Int, geq a a = true := fun a => by rw [Be]; simp
 rw [Alc, Ac7, Aii, Ac1, Aiu, Aor, e1, e2, e3, e4, e5, e5, Ap5, Ap5]; rfl
def Aas (s n : UInt64) : UInt64 := s + n - s / 16
def kS (k : Nat) (s : UInt64) : Nat := if 0 < k ∧ s.toNat < 2 ^ (k + 4) then k - 1 else if k < 24 ∧ 2 ^ (k + 5) < s.toNat then k + 1 else k
theorem Bqb {k : Nat} (h : k ≤ 24) (s : UInt64) : kS k s ≤ 24 := by
 unfold kS
 by_cases h1 : 0 < k ∧ s.toNat < 2 ^ (k + 4)
 ·rw [if_pos h1]; omega
 ·rw [if_neg h1]; split <;> omega
theorem Bf5 {k : Nat} {s : UInt64} (h : ¬ (0 < k ∧ s.toNat < 2 ^ (k + 4))) : (if k < 24 ∧ 2 ^ (k + 5) < s.toNat then ((k + 1 : Nat) : Int) else (k : Int)) = ((kS k s : Nat) : Int) := by
 rw [kS, if_neg h]; split <;> rfl
theorem Bgo {s n : UInt64} (h : s.toNat ≤ 68719476735) (hn : n.toNat ≤ 4294967295) : (Aas s n).toNat ≤ 68719476735 := by
 have h1 := s.toNat_lt
 have e : (s + n).toNat = s.toNat + n.toNat := by rw [UInt64.toNat_add]; omega
 have e2 : (s / 16).toNat = s.toNat / 16 := by rw [UInt64.toNat_div]; rfl
 rw [Aas, UInt64.toNat_sub_of_le _ _ (by rw [UInt64.le_iff_toNat_le, e, e2]; omega), e, e2]; omega
theorem Awq (s n : UInt64) : Af s (Ao n (Cr s (GI.toZ (4 : UInt64)).toNat)) = Aas s n := by
 have e : Cr s (GI.toZ (4 : UInt64)).toNat = s / 16 := by
  apply UInt64.toNat_inj.1
  rw [Ad4, UInt64.toNat_div]; rfl
 rw [e, Ad1, Au1, Aas, UInt64.sub_eq_add_neg, UInt64.sub_eq_add_neg, UInt64.add_assoc]
theorem Bgy (s n : UInt64) : Ao (Af s n) (Cw s (16 : UInt64)) = Aas s n := by rw [Ad1, Au1, Aq0, Aas]
theorem Bsi {k : Nat} (h : k ≤ 24) : (Ff (16 : UInt64) k).toNat = 2 ^ (k + 4) := by
 have hp : 2 ^ k ≤ 2 ^ 24 := Nat.pow_le_pow_right (by omega) h
 rw [Ajl, Nat.pow_add]
 show 16 * 2 ^ k % _ = 2 ^ k * 16
 rw [Nat.mod_eq_of_lt (by omega), Nat.mul_comm]
theorem Bqn {k : Nat} (h : k ≤ 24) : (Ff (32 : UInt64) k).toNat = 2 ^ (k + 5) := by
 have hp : 2 ^ k ≤ 2 ^ 24 := Nat.pow_le_pow_right (by omega) h
 rw [Ajl, Nat.pow_add]
 show 32 * 2 ^ k % _ = 2 ^ k * 32
 rw [Nat.mod_eq_of_lt (by omega), Nat.mul_comm]
theorem Bp4 {k : Nat} {s : UInt64} (h : 0 < k) (h2 : s.toNat < 2 ^ (k + 4)) : kS k s = k - 1 := by rw [kS, if_pos ⟨h, h2⟩]
theorem Bqc {k : Nat} {s : UInt64} (h : ¬ (0 < k ∧ s.toNat < 2 ^ (k + 4))) (h2 : k < 24) (h3 : 2 ^ (k + 5) < s.toNat) : kS k s = k + 1 := by rw [kS, if_neg h, if_pos ⟨h2, h3⟩]
theorem Bgq {k : Nat} {s : UInt64} (h : ¬ (0 < k ∧ s.toNat < 2 ^ (k + 4))) (h2 : ¬ (k < 24 ∧ 2 ^ (k + 5) < s.toNat)) : kS k s = k := by rw [kS, if_neg h, if_neg h2]
theorem Bp5 {α : Type} (k : Nat) (hk : k ≤ 24) (s : UInt64) (f : Int → Option α) :
  (if (Ga (k : Int) (0 : Int)) = true then (
   Option.bind (Ut (Sd (k : Int) (0 : Int))) fun _ =>
   if (Dg s (Ff (16 : UInt64) (GI.toZ (k : Int)).toNat)) = true then f (Ao (k : Int) (1 : Int))
   else (if (Dg (k : Int) (24 : Int)) = true then (
    Option.bind (Ut (Sd (k : Int) (0 : Int))) fun _ =>
    if (Ga s (Ff (32 : UInt64) (GI.toZ (k : Int)).toNat)) = true then f (Af (k : Int) (1 : Int)) else f (k : Int))
    else f (k : Int)))
  else (if (Dg (k : Int) (24 : Int)) = true then (
    Option.bind (Ut (Sd (k : Int) (0 : Int))) fun _ =>
    if (Ga s (Ff (32 : UInt64) (GI.toZ (k : Int)).toNat)) = true then f (Af (k : Int) (1 : Int)) else f (k : Int))
    else f (k : Int))) = f ((kS k s : Nat) : Int) := by
 have z : (GI.toZ (k : Int)).toNat = k := rfl
 rw [z, Cu (by rw [Dt]; simp)]
 simp only [Aa]
 rw [Ats, Ah5, Bsi hk, Bqn hk]
 by_cases h0 : 0 < k
 ·rw [if_pos (by rw [Bb]; simp; omega)]
  by_cases h1 : s.toNat < 2 ^ (k + 4)
  ·rw [if_pos (by simp [h1]), Bp4 h0 h1, Ce (by omega) (by omega)]; congr 1; omega
  ·rw [if_neg (by simp; omega)]
   by_cases h2 : k < 24
   ·rw [if_pos (by rw [Ae]; simp; omega)]
    by_cases h3 : 2 ^ (k + 5) < s.toNat
    ·rw [if_pos (by simp [h3]), Bqc (fun h => h1 h.2) h2 h3, Ag (by omega) (by omega)]; rfl
    ·rw [if_neg (by simp; omega), Bgq (fun h => h1 h.2) (fun h => h3 h.2)]
   ·rw [if_neg (by rw [Ae]; simp; omega), Bgq (fun h => h1 h.2) (fun h => h2 h.1)]
 ·rw [if_neg (by rw [Bb]; simp; omega)]
  by_cases h2 : k < 24
  ·rw [if_pos (by rw [Ae]; simp; omega)]
   by_cases h3 : 2 ^ (k + 5) < s.toNat
   ·rw [if_pos (by simp [h3]), Bqc (fun h => h0 h.1) h2 h3, Ag (by omega) (by omega)]; rfl
   ·rw [if_neg (by simp; omega), Bgq (fun h => h0 h.1) (fun h => h3 h.2)]
  ·rw [if_neg (by rw [Ae]; simp; omega), Bgq (fun h => h0 h.1) (fun h => h2 h.1)]
theorem Bfy (k : Nat) (hk : k ≤ 24) (s n : UInt64) : Gw (k : Int) s n = some (((kS k (Aas s n) : Nat) : Int), Aas s n) := by
 have g1 : Af (k : Int) 4 = ((k + 4 : Nat) : Int) := by rw [Ag (by omega) (by omega)]; omega
 have g2 : Af (k : Int) 5 = ((k + 5 : Nat) : Int) := by rw [Ag (by omega) (by omega)]; omega
 have hp : My (k : Int) s n = some (if k < 24 ∧ 2 ^ (k + 5) < (Aas s n).toNat then ((k + 1 : Nat) : Int) else (k : Int), Aas s n) := by
  rw [My, Aea, g2, Adl _ (by omega), Aa, Bgy, Ah5, Ah2 (by omega)]
  by_cases h2 : k < 24
  ·rw [if_pos (by rw [Ae]; simp; omega)]
   by_cases h3 : 2 ^ (k + 5) < (Aas s n).toNat
   ·rw [if_pos (by simp [h3]), if_pos ⟨h2, h3⟩, Ag (by omega) (by omega)]; rfl
   ·rw [if_neg (by simp; omega), if_neg (fun h => h3 h.2)]
  ·rw [if_neg (by rw [Ae]; simp; omega), if_neg (fun h => h2 h.1)]
 rw [Gw, Wb, g1, Adl _ (by omega), Aa, Bgy, Ats, Ah2 (by omega), hp]
 by_cases h0 : 0 < k
 ·rw [if_pos (by rw [Bb]; simp; omega)]
  by_cases h1 : (Aas s n).toNat < 2 ^ (k + 4)
  ·rw [if_pos (by simp [h1]), Bp4 h0 h1, Ce (by omega) (by omega)]; congr 2; omega
  ·rw [if_neg (by simp; omega), Bf5 (fun h => h1 h.2)]
 ·rw [if_neg (by rw [Bb]; simp; omega), Bf5 (fun h => h0 h.1)]
def n64 (v : UInt32) : UInt64 := UInt64.ofNat v.toNat
theorem Bms (v : UInt32) : (n64 v).toNat ≤ 4294967295 := by have := v.toNat_lt; rw [n64, UInt64.toNat_ofNat', Nat.mod_eq_of_lt (by omega)]; omega
def Asg (k : Nat) (v : UInt32) : UInt32 := UInt32.ofNat (v.toNat - 2 ^ k)
def lK (l : Nat) (t : UInt64) (k : Nat) (v : UInt32) : Nat := if v.toNat < 2 ^ k then l else kS l (Aas t (n64 (Asg k v)))
def lT (t : UInt64) (k : Nat) (v : UInt32) : UInt64 := if v.toNat < 2 ^ k then t else Aas t (n64 (Asg k v))
theorem Bmy {k l : Nat} {s t : UInt64} (h : okD k l s t) (v : UInt32) : okD (kS k (Aas s (n64 v))) (lK l t k v) (Aas s (n64 v)) (lT t k v) := by
 obtain ⟨h1, h2, h3, h4⟩ := h
 refine ⟨Bqb h1 _, ?_, Bgo h3 (Bms v), ?_⟩
 ·unfold lK; split; · exact h2
  exact Bqb h2 _
 ·unfold lT; split; · exact h4
  exact Bgo h4 (Bms _)
theorem Br2 (k l : Nat) (s t : UInt64) (hk : k ≤ 24) (v : UInt32) : Pq (k : Int) (l : Int) s t v = some (decide (v.toNat < 2 ^ k)) := by
 have := v.toNat_lt
 rw [Pq, Adl k (by omega), Aa, Ats, Ah2 (by omega), Hr, UInt64.toNat_ofNat', Nat.mod_eq_of_lt (by omega)]
theorem left_eq (k l : Nat) (s t : UInt64) (hk : k ≤ 24) (v : UInt32) (h : ¬ v.toNat < 2 ^ k) : Jg (k : Int) (l : Int) s t v = some (Asg k v) := by
 have := v.toNat_lt
 have e2 : ∀ x : UInt64, (Ad x : UInt32) = UInt32.ofNat x.toNat := fun x => by simp only [Ad, Ht, Dy]
 have e3 : (UInt64.ofNat v.toNat).toNat = v.toNat := by rw [UInt64.toNat_ofNat', Nat.mod_eq_of_lt (by omega)]
 rw [Jg, Adl k (by omega), Aa, e2, Au1, Hr, UInt64.toNat_sub_of_le _ _ (by rw [UInt64.le_iff_toNat_le, Ah2 (by omega), e3]; omega), Ah2 (by omega), e3, Asg]
theorem Bh4 {k l : Nat} {s t : UInt64} (h : okD k l s t) (v : UInt32) : Pf (k : Int) (l : Int) s t v = some (((kS k (Aas s (n64 v)) : Nat) : Int), ((lK l t k v : Nat) : Int), Aas s (n64 v), lT t k v) := by
 obtain ⟨h1, h2, h3, h4⟩ := h
 have hp : ∀ (r1 : Int) (r2 : UInt64), Ko v (k : Int) (l : Int) s t r1 r2 = some (((kS k (Aas s (n64 v)) : Nat) : Int), r1, Aas s (n64 v), r2) := by
  intro r1 r2
  rw [Ko, Aa1, Hr, Bfy k h1, Aa]; rfl
 rw [Pf, Kn, Br2 k l s t h1, Aa]
 by_cases hv : v.toNat < 2 ^ k
 ·rw [if_neg (by simp [hv]), hp, lK, if_pos hv, lT, if_pos hv]
 ·rw [if_pos (by simp; omega), left_eq k l s t h1 v hv, Aa, Hr, Bfy l h2, Aa]
  simp only
  rw [hp, lK, if_neg hv, lT, if_neg hv]; rfl
theorem Bmq (k l : Nat) (s t : UInt64) (hk : k ≤ 24) (v : UInt32) : Alh (k : Int) (l : Int) s t v = some (if v.toNat < 2 ^ k then (0, v) else (1, Asg k v)) := by
 have hp : 2 ^ k ≤ 2 ^ 24 := Nat.pow_le_pow_right (by omega) hk
 have hpos : 0 < 2 ^ k := Nat.pow_pos (by omega)
 have hl := v.toNat_lt
 have z : (GI.toZ (k : Int)).toNat = k := rfl
 have e1 : geq (Cr v k) (0 : UInt32) = decide (v.toNat < 2 ^ k) := by
  rw [Azy, Bool.eq_iff_iff]
  simp only [beq_iff_eq, ← UInt32.toNat_inj, Ajf, decide_eq_true_eq]
  show _ / _ = 0 ↔ _
  rw [Nat.div_eq_zero_iff]; omega
 have e2 : ¬ v.toNat < 2 ^ k → Ao v (Ff (1 : UInt32) k) = Asg k v := by
  intro h
  have e3 : (Ff (1 : UInt32) k).toNat = 2 ^ k := by rw [Avs]; show 1 * 2 ^ k % _ = _; rw [Nat.mod_eq_of_lt (by omega), Nat.one_mul]
  apply UInt32.toNat_inj.1
  rw [Bdc, UInt32.toNat_sub_of_le _ _ (by rw [UInt32.le_iff_toNat_le, e3]; omega), e3, Asg, Ak0 (by omega)]
 rw [Alh, Cu (by rw [Dt]; simp), Aa, Aa, z, e1]
 by_cases h : v.toNat < 2 ^ k
 ·rw [if_pos (by simp [h]), if_pos h]
 ·rw [if_neg (by simp; omega), if_neg h, e2 h]
abbrev Rd := UInt32 × Int × Int × Int × UInt64 × UInt64 × Int
theorem Awb {k l : Nat} {s t : UInt64} (h : okD k l s t) (v : UInt32) (r : Int) : Afn (k : Int) (l : Int) s t v r = some (v, r, ((kS k (Aas s (n64 v)) : Nat) : Int), ((lK l t k v : Nat) : Int), Aas s (n64 v), lT t k v, 0) := by
 obtain ⟨h1, h2, h3, h4⟩ := h
 have hp : ∀ (x : Int) (y : UInt64), Abs v r (k : Int) s x y = some (v, r, ((kS k (Aas s (n64 v)) : Nat) : Int), x, Aas s (n64 v), y, 0) := by
  intro x y
  rw [Abs, Ak9, Hr, Awq, Bp5 k h1]
  rw [Akm, Akg, Ai4, Aok, Hr, Awq]; rfl
 rw [Afn, Aj4, Bmq k l s t h1, Aa]
 by_cases hv : v.toNat < 2 ^ k
 ·rw [if_pos hv]
  simp only
  rw [if_neg (by rw [Be]; simp), hp, lK, if_pos hv, lT, if_pos hv]
 ·rw [if_neg hv]
  simp only
  rw [if_pos (by rw [Be]; rfl), Hr, Awq, Bp5 l h2 _ (fun x => Abs v r (k : Int) s x (Aas t (UInt64.ofNat (Asg k v).toNat))), hp, lK, if_neg hv, lT, if_neg hv]; rfl
def dgS (p : List UInt8) (N a k l : Nat) : UInt32 × Int × Int :=
 if N ≤ a then (0, 0, 24) else
 if Jj p a = 0 then (if N < a + 1 + k then (0, 0, 24) else (UInt32.ofNat (Bw p (a + 1) k), ((a + 1 + k : Nat) : Int), 0)) else
 if (rcS p N (a + 1) l).2.2 ≠ 0 then (0, 0, (rcS p N (a + 1) l).2.2) else
 if 4294967295 < (rcS p N (a + 1) l).1.toNat + 2 ^ k then (0, 0, 12) else (UInt32.ofNat ((rcS p N (a + 1) l).1.toNat + 2 ^ k), (rcS p N (a + 1) l).2.1, 0)
theorem Brj {p : List UInt8} {N a k l : Nat} (h : (dgS p N a k l).2.2 = 0) : (a : Int) < (dgS p N a k l).2.1 ∧ (dgS p N a k l).2.1 ≤ N := by
 revert h
 unfold dgS
 split
 ·simp
 split
 ·split
  ·simp
  ·simp only; omega
 ·split
  ·intro h; contradiction
  ·rename_i h1
   split
   ·simp
   ·intro _
    have := Bqq (p := p) (N := N) (a := a + 1) (k := l) (v := (rcS p N (a + 1) l).1) (n := (rcS p N (a + 1) l).2.1) (by
     have e : (rcS p N (a + 1) l).2.2 = 0 := by simpa using h1
     rw [← e])
    simp only; omega
theorem Bpq {p : List UInt8} {N : Nat} (h : okB p N) (a : Nat) {k l : Nat} {s t : UInt64} (hd : okD k l s t) : Aco p (N : Int) (a : Int) (k : Int) (l : Int) s t =
  some (if (dgS p N a k l).2.2 ≠ 0 then (0, 0, 0, 0, 0, 0, (dgS p N a k l).2.2) else ((dgS p N a k l).1, (dgS p N a k l).2.1, ((kS k (Aas s (n64 (dgS p N a k l).1)) : Nat) : Int), ((lK l t k (dgS p N a k l).1 : Nat) : Int), Aas s (n64 (dgS p N a k l).1), lT t k (dgS p N a k l).1, 0)) := by
 obtain ⟨h1, h2, h3, h4⟩ := hd
 have hd : okD k l s t := ⟨h1, h2, h3, h4⟩
 have hN := h.1
 have hg := Arm h a 1 (by omega)
 have hb := Xs p a
 rw [Aco, Aj2, Afu h, Aa, if_neg (by rw [Au]; simp), Bq2 hd, Aa, if_neg (by rw [Au]; simp), Akj, Aki]
 refine Eq.trans (congrArg (fun o => Option.bind o _) hg) ?_
 rw [Aa]
 by_cases ha : N ≤ a
 ·have hS : dgS p N a k l = (0, 0, 24) := by rw [dgS, if_pos ha]
  rw [if_pos (by omega), hS]; rfl
 rw [if_neg (by omega)]
 simp only
 have e0 : geq (Ve p a 1) (0 : UInt64) = decide (Jj p a = 0) := by
  rw [Atj, Bool.eq_iff_iff]
  simp only [beq_iff_eq, ← UInt64.toNat_inj, decide_eq_true_eq, Abe p a 1 (by omega), Ba5]; rfl
 have e1 : Af (a : Int) 1 = ((a + 1 : Nat) : Int) := by rw [Ag (by omega) (by omega)]; omega
 rw [if_neg (by rw [Au]; simp), e0, e1]
 by_cases hz : Jj p a = 0
 ·rw [if_pos (by simp [hz]), Arm h (a + 1) k (by omega), Aa]
  by_cases h5 : N < a + 1 + k
  ·have hS : dgS p N a k l = (0, 0, 24) := by rw [dgS, if_neg ha, if_pos hz, if_pos h5]
   rw [if_pos h5, hS]; rfl
  ·have hS : dgS p N a k l = (UInt32.ofNat (Bw p (a + 1) k), ((a + 1 + k : Nat) : Int), 0) := by rw [dgS, if_neg ha, if_pos hz, if_neg h5]
   rw [if_neg h5, hS]
   simp only
   rw [if_neg (by rw [Au]; simp), Awb hd, Ap8 (by omega), Ag (by omega) (by omega)]; rfl
 ·rw [if_neg (by simp [hz]), Bpm h (a + 1) l h2, Aa]
  have hp : 2 ^ k ≤ 2 ^ 24 := Nat.pow_le_pow_right (by omega) h1
  by_cases h5 : (rcS p N (a + 1) l).2.2 ≠ 0
  ·have hS : dgS p N a k l = (0, 0, (rcS p N (a + 1) l).2.2) := by rw [dgS, if_neg ha, if_neg hz, if_pos h5]
   rw [hS]
   generalize rcS p N (a + 1) l = R at *
   obtain ⟨v, n, e⟩ := R
   simp only at *
   rw [if_pos (by rw [Au]; simpa using h5), if_pos h5]
  ·have hv := (rcS p N (a + 1) l).1.toNat_lt
   have z : (GI.toZ (k : Int)).toNat = k := rfl
   have e3 : (Ff (1 : UInt32) k).toNat = 2 ^ k := by rw [Avs]; show 1 * 2 ^ k % _ = _; rw [Nat.mod_eq_of_lt (by omega), Nat.one_mul]
   by_cases h6 : 4294967295 < (rcS p N (a + 1) l).1.toNat + 2 ^ k
   ·have hS : dgS p N a k l = (0, 0, 12) := by rw [dgS, if_neg ha, if_neg hz, if_neg h5, if_pos h6]
    rw [hS]
    generalize rcS p N (a + 1) l = R at *
    obtain ⟨v, n, e⟩ := R
    simp only at *
    rw [if_neg (by rw [Au]; simpa using h5), Cu (by rw [Dt]; simp), Aa, z, if_pos (by rw [Bgl, At5, UInt32.toNat_add, e3]; simp; omega), if_pos (by decide)]
   ·have hS : dgS p N a k l = (UInt32.ofNat ((rcS p N (a + 1) l).1.toNat + 2 ^ k), (rcS p N (a + 1) l).2.1, 0) := by rw [dgS, if_neg ha, if_neg hz, if_neg h5, if_neg h6]
    rw [hS]
    generalize rcS p N (a + 1) l = R at *
    obtain ⟨v, n, e⟩ := R
    simp only at *
    have e4 : Af v (Ff (1 : UInt32) k) = UInt32.ofNat (v.toNat + 2 ^ k) := by
     apply UInt32.toNat_inj.1
     rw [At5, UInt32.toNat_add, e3, Ak0 (by omega), Nat.mod_eq_of_lt (by omega)]
    rw [if_neg (by rw [Au]; simpa using h5), Cu (by rw [Dt]; simp), Aa, z, if_neg (by rw [Bgl, At5, UInt32.toNat_add, e3]; simp; omega), e4, Awb hd]; rfl
theorem Bl8 {p : List UInt8} {N : Nat} (h : okB p N) (a : Nat) (k l : Nat) (s t : UInt64) (h1 : k ≤ 24) (h2 : l ≤ 24) : Wp p (N : Int) (a : Int) (k : Int) (l : Int) s t = some (dgS p N a k l) := by
 have hN := h.1
 have hl := h.2.1
 have hb := Xs p a
 rw [Wp]
 by_cases ha : N ≤ a
 ·rw [if_pos (by rw [Dt]; simp; omega), dgS, if_pos ha]
 rw [if_neg (by rw [Dt]; simp; omega), Aro p _ a (by omega) (by omega), Aa, Ce (a := (N : Int)) (b := (a : Int)) (by omega) (by omega), Ce (by omega) (by omega)]
 have e1 : Af (a : Int) 1 = ((a + 1 : Nat) : Int) := by rw [Ag (by omega) (by omega)]; omega
 rw [e1]
 by_cases hz : Jj p a = 0
 ·rw [if_pos (by rw [Be]; simp [hz])]
  by_cases h5 : N < a + 1 + k
  ·rw [if_pos (by rw [Ae]; simp; omega), dgS, if_neg ha, if_pos hz, if_pos h5]
  ·rw [if_neg (by rw [Ae]; simp; omega), Aps p _ (a + 1) k (by omega) (by omega), Aa, dgS, if_neg ha, if_pos hz, if_neg h5, Ap8 (by omega), Ag (by omega) (by omega)]; rfl
 ·rw [if_neg (by rw [Be]; simp; omega), Bmr h (a + 1) l h2, Aa]
  have hp : 2 ^ k ≤ 2 ^ 24 := Nat.pow_le_pow_right (by omega) h1
  have hv := (rcS p N (a + 1) l).1.toNat_lt
  have e2 : ∀ x : UInt64, (Ad x : UInt32) = UInt32.ofNat x.toNat := fun x => by simp only [Ad, Ht, Dy]
  by_cases h5 : (rcS p N (a + 1) l).2.2 ≠ 0
  ·have hS : dgS p N a k l = (0, 0, (rcS p N (a + 1) l).2.2) := by rw [dgS, if_neg ha, if_neg hz, if_pos h5]
   rw [hS]
   generalize rcS p N (a + 1) l = R at *
   obtain ⟨v, n, e⟩ := R
   simp only at *
   rw [if_pos (by rw [Au]; simpa using h5)]
  ·have hsum : ∀ v : UInt32, (Af (Ad v : UInt64) (UInt64.ofNat (2 ^ k))).toNat = v.toNat + 2 ^ k := by
    intro v
    have := v.toNat_lt
    have := Nat.pow_pos (n := k) (show 0 < 2 by omega)
    rw [Ad1, UInt64.toNat_add, Hr, Ah2 (by omega), UInt64.toNat_ofNat']; omega
   by_cases h6 : 4294967295 < (rcS p N (a + 1) l).1.toNat + 2 ^ k
   ·have hS : dgS p N a k l = (0, 0, 12) := by rw [dgS, if_neg ha, if_neg hz, if_neg h5, if_pos h6]
    rw [hS]
    generalize rcS p N (a + 1) l = R at *
    obtain ⟨v, n, e⟩ := R
    simp only at *
    rw [if_neg (by rw [Au]; simpa using h5), Adl k (by omega), Aa, if_pos (by rw [Ah5, hsum]; simpa using h6)]
   ·have hS : dgS p N a k l = (UInt32.ofNat ((rcS p N (a + 1) l).1.toNat + 2 ^ k), (rcS p N (a + 1) l).2.1, 0) := by rw [dgS, if_neg ha, if_neg hz, if_neg h5, if_neg h6]
    rw [hS]
    generalize rcS p N (a + 1) l = R at *
    obtain ⟨v, n, e⟩ := R
    simp only at *
    rw [if_neg (by rw [Au]; simpa using h5), Adl k (by omega), Aa, if_neg (by rw [Ah5, hsum]; simpa using h6), e2, hsum]
end Go.Pl
set_option linter.unusedVariables false
set_option linter.unusedSimpArgs false
namespace Go.Pl
open Go Go.Lv
abbrev DuN := Nat × Nat × UInt64 × UInt64
def okN (d : DuN) : Prop := okD d.1 d.2.1 d.2.2.1 d.2.2.2
def nxt (d : DuN) (v : UInt32) : DuN := (kS d.1 (Aas d.2.2.1 (n64 v)), lK d.2.1 d.2.2.2 d.1 v, Aas d.2.2.1 (n64 v), lT d.2.2.2 d.1 v)
def Az1 : DuN := (10, 10, 16384, 16384)
theorem Bkb : okN Az1 := ⟨by decide, by decide, by decide, by decide⟩
theorem Bq1 {d : DuN} (h : okN d) (v : UInt32) : okN (nxt d v) := Bmy h v
abbrev DuL := Int × Int × UInt64 × UInt64 × Unit
def toI (d : DuN) : DuL := ((d.1 : Int), (d.2.1 : Int), d.2.2.1, d.2.2.2, ())
def chP (ch : Nat) (v : List UInt32) (c : Nat) : Nat → DuN
 | 0 => Az1
 | m + 1 => if m % ch = c then nxt (chP ch v c m) (v.getD m 0) else chP ch v c m
theorem Are (ch : Nat) (v : List UInt32) (c : Nat) : ∀ m, okN (chP ch v c m)
 | 0 => Bkb
 | m + 1 => by rw [chP]; split; exact Bq1 (Are ch v c m) _; exact Are ch v c m
theorem Bgd (ch : Nat) (v w : List UInt32) (c : Nat) : ∀ m, m ≤ v.length → chP ch (v ++ w) c m = chP ch v c m
 | 0, _ => rfl
 | m + 1, h => by
  have e : (v ++ w).getD m 0 = v.getD m 0 := by simp [List.getD_eq_getElem?_getD, List.getElem?_append_left (show m < v.length by omega)]
  rw [chP, chP, Bgd ch v w c m (by omega), e]
theorem Azk (ch : Nat) (v : List UInt32) (c : Nat) : ∀ m, m ≤ c → c < ch → chP ch v c m = Az1
 | 0, _, _ => rfl
 | m + 1, h, h2 => by rw [chP, if_neg (by rw [Nat.mod_eq_of_lt (by omega)]; omega), Azk ch v c m (by omega) h2]
theorem Bcw (ch : Nat) (v : List UInt32) (c i : Nat) (hi : i % ch = c) (hc : c < ch) : ∀ j, j < ch → chP ch v c (i + 1 + j) = chP ch v c (i + 1)
 | 0, _ => rfl
 | j + 1, h => by
  have hne : (i + 1 + j) % ch ≠ c := by
   intro e
   have h1 : (i + (1 + j)) % ch = i % ch := by rw [hi, ← e]; congr 1; omega
   have h2 : (1 + j) % ch = 0 := by
    have h3 := Nat.sub_mod_eq_zero_of_mod_eq h1
    rwa [Nat.add_sub_cancel_left] at h3
   rw [Nat.mod_eq_of_lt (by omega)] at h2; omega
  rw [show i + 1 + (j + 1) = (i + 1 + j) + 1 by omega, chP, if_neg hne, Bcw ch v c i hi hc j (by omega)]
theorem Bkw (ch : Nat) (v : List UInt32) (c i : Nat) (hi : i % ch = c) (hc : c < ch) : chP ch v c (i + ch) = nxt (chP ch v c i) (v.getD i 0) := by
 have h := Bcw ch v c i hi hc (ch - 1) (by omega)
 rw [show i + 1 + (ch - 1) = i + ch by omega] at h
 rw [h, chP, if_pos hi]
theorem Avm {l : List UInt32} {k : Nat} (h : k < l.length) : Aj l (k : Int) = some (l.getD k 0) := by
 rw [Dk h]; simp [List.getD_eq_getElem?_getD, h]
theorem Au9 (a b : Nat) : Kf (a : Int) (b : Int) = ((a % b : Nat) : Int) := by rw [Kf, Int.tmod_eq_emod_of_nonneg (by omega)]; omega
theorem Asj (ch : Nat) (v : List UInt32) (hch : 1 ≤ ch) (hch6 : ch ≤ 6) (hv : v.length ≤ 4000) : ∀ (j i q : Nat), i % ch = v.length % ch → i ≤ v.length → v.length - i ≤ j → j < q →
  Gv (ch : Int) v q (i : Int) ((chP ch v (v.length % ch) i).1 : Int) ((chP ch v (v.length % ch) i).2.1 : Int) (chP ch v (v.length % ch) i).2.2.1 (chP ch v (v.length % ch) i).2.2.2 =
   some (((chP ch v (v.length % ch) v.length).1 : Int), ((chP ch v (v.length % ch) v.length).2.1 : Int), (chP ch v (v.length % ch) v.length).2.2.1, (chP ch v (v.length % ch) v.length).2.2.2)
 | j, i, q + 1, hi, hl, hj, hq => by
  have hc : v.length % ch < ch := Nat.mod_lt _ (by omega)
  rw [Gv, Ra]
  by_cases h : i < v.length
  ·have h1 := Bh4 (Are ch v (v.length % ch) i) (v.getD i 0)
   rw [if_pos (by rw [Ae, Ac]; simp; omega), Avm h, Aa, h1, Aa]
   have hle : i + ch ≤ v.length := by
    have h2 := Nat.div_add_mod i ch
    have h3 := Nat.div_add_mod v.length ch
    rw [hi] at h2
    have h4 : ch * (i / ch) < ch * (v.length / ch) := by omega
    have h5 := Nat.lt_of_mul_lt_mul_left h4
    have h6 : ch * (i / ch + 1) ≤ ch * (v.length / ch) := Nat.mul_le_mul_left _ h5
    rw [Nat.mul_add] at h6; omega
   have ih := Asj ch v hch hch6 hv (j - ch) (i + ch) q (by rw [Nat.add_mod_right]; exact hi) hle (by omega) (by omega)
   rw [Bkw ch v _ i hi hc] at ih
   simp only
   rw [Ag (by omega) (by omega)]
   exact ih
  ·rw [if_neg (by rw [Ae, Ac]; simp; omega), show i = v.length by omega]; rfl
theorem Bhv (ch : Nat) (v : List UInt32) (hch : 1 ≤ ch) (hch6 : ch ≤ 6) (hv : v.length ≤ 4000) : Jw (ch : Int) v = some (((chP ch v (v.length % ch) v.length).1 : Int), ((chP ch v (v.length % ch) v.length).2.1 : Int), (chP ch v (v.length % ch) v.length).2.2.1, (chP ch v (v.length % ch) v.length).2.2.2) := by
 have hc : v.length % ch < ch := Nat.mod_lt _ (by omega)
 have hle : v.length % ch ≤ v.length := Nat.mod_le _ _
 have h := Asj ch v hch hch6 hv v.length (v.length % ch) Bc (by rw [Nat.mod_mod]) hle (by omega) (by have := Ay; omega)
 rw [Azk ch v _ _ (Nat.le_refl _) hc] at h
 rw [Jw, Rj, Ii, Aa]
 simp only
 rw [Cu (by rw [Au]; simp; omega), Aa, Ac, Au9]
 exact h
def now (ch : Nat) (v : List UInt32) : DuN := chP ch v (v.length % ch) v.length
def win (N a : Nat) : Nat := min 81 (N - a)
def Kg (ch : Nat) (p : List UInt8) (N a : Nat) (out : List UInt32) : UInt32 × Int × Int := dgS (Acu p a (win N a)) (win N a) 0 (now ch out).1 (now ch out).2.1
def Wj (ch : Nat) (p : List UInt8) (N : Nat) : Nat → Nat → List UInt32 → List UInt32 × Nat × Int
 | 0, a, out => (out, a, 0)
 | j + 1, a, out => if (Kg ch p N a out).2.2 ≠ 0 then (out, a, (Kg ch p N a out).2.2) else Wj ch p N j (a + (Kg ch p N a out).2.1.toNat) (out ++ [(Kg ch p N a out).1])
theorem Anq {ch : Nat} {p : List UInt8} {N a : Nat} {out : List UInt32} (h : (Kg ch p N a out).2.2 = 0) : 0 < (Kg ch p N a out).2.1 ∧ (Kg ch p N a out).2.1 ≤ win N a := by
 have := Brj h
 exact ⟨this.1, this.2⟩
theorem Axn {ch : Nat} {p : List UInt8} {N a : Nat} {out : List UInt32} (h : (Kg ch p N a out).2.2 = 0) : ((a : Int) + (Kg ch p N a out).2.1) = ((a + (Kg ch p N a out).2.1.toNat : Nat) : Int) := by
 have := Anq h; omega
def sts (ch : Nat) (v : List UInt32) : List DuL := (List.range 6).map fun c => toI (chP ch v c v.length)
theorem Bho {ch : Nat} {v : List UInt32} {c : Nat} (h : c < 6) : Aj (sts ch v) (c : Int) = some (toI (chP ch v c v.length)) := by
 rw [Dk (by simp [sts]; exact h)]; simp [sts]
theorem Bpi {ch : Nat} {v : List UInt32} {c : Nat} (x : UInt32) (h : c < 6) (hc : c = v.length % ch) : Qk (sts ch v) (c : Int) (toI (nxt (chP ch v c v.length) x)) = some (sts ch (v ++ [x])) := by
 rw [Wu _ (by simp [sts]; exact h)]
 congr 1
 apply List.ext_getElem (by simp [sts])
 intro i h1 h2
 rw [List.getElem_set]
 simp only [sts, List.getElem_map, List.getElem_range]
 have e : (v ++ [x]).getD v.length 0 = x := by simp
 rw [List.length_append, List.length_singleton, chP, e, Bgd ch v [x] i v.length (Nat.le_refl _)]
 by_cases hi : c = i
 ·subst hi; rw [if_pos rfl, if_pos hc.symm]
 ·rw [if_neg hi, if_neg (by omega)]
section
variable {p : List UInt8} {N ch n : Nat}
theorem Bc4 (hp : okB p N) (h1 : 1 ≤ ch) (h6 : ch ≤ 6) (hn : n * ch ≤ 4000) : ∀ (j a q : Nat) (out : List UInt32), out.length + j = n * ch → j < q → a ≤ N →
  Ky (ch : Int) (n : Int) p (N : Int) q (a : Int) (out.length : Int) (sts ch out) out =
   some (if (Wj ch p N j a out).2.2 ≠ 0 then ([], 0, (Wj ch p N j a out).2.2) else ((Wj ch p N j a out).1, ((Wj ch p N j a out).2.1 : Int), 0))
 | j, a, q + 1, out, hj, hq, ha => by
  have hN := hp.1
  have hnn : n ≤ n * ch := Nat.le_mul_of_pos_right n (by omega)
  have em : Bo (n : Int) (ch : Int) = ((n * ch : Nat) : Int) := by rw [Hs (by rw [← Int.natCast_mul]; omega) (by rw [← Int.natCast_mul]; omega), Int.natCast_mul]
  rw [Ky, Ry, em]
  cases j with
  | zero =>
   rw [if_neg (by rw [Ae]; simp; omega)]; rfl
  | succ j =>
   have hc : out.length % ch < 6 := Nat.lt_of_lt_of_le (Nat.mod_lt _ (by omega)) h6
   have ew : Gt (Af (a : Int) 81) (N : Int) = ((a + win N a : Nat) : Int) := by rw [Ai5, Ag (by omega) (by omega)]; unfold win; omega
   have hw : a + win N a ≤ N := by unfold win; omega
   have hw2 : win N a ≤ 81 := by unfold win; omega
   have hd := Bpq (Bhg p a (win N a) (by omega)) 0 (Are ch out (out.length % ch) out.length)
   have ecode : dgS (Acu p a (win N a)) (win N a) 0 (chP ch out (out.length % ch) out.length).1 (chP ch out (out.length % ch) out.length).2.1 = Kg ch p N a out := rfl
   rw [if_pos (by rw [Ae]; simp; omega), ew, Brr hp a _ hw (by omega), Aa]
   simp only
   rw [if_neg (by rw [Au]; simp), Cu (by rw [Au]; simp; omega), Aa, Au9, Bho hc, Aa, Aa]
   refine Eq.trans (congrArg (fun o => Option.bind o _) hd) ?_
   rw [Aa, ecode, Wj]
   by_cases he : (Kg ch p N a out).2.2 ≠ 0
   ·rw [if_pos he, if_pos he]
    simp only
    rw [Rw, Rv, if_pos (by rw [Au]; simpa using he), if_pos he]
   ·have he0 : (Kg ch p N a out).2.2 = 0 := by simpa using he
    have hok := Anq he0
    have hset := Bpi (ch := ch) (v := out) (Kg ch p N a out).1 hc rfl
    rw [if_neg he, if_neg he]
    simp only
    rw [Rw, Rv, if_neg (by rw [Au]; simp), Cu (by rw [Au]; simp; omega), Aa, Au9, Bho hc, Aa]
    refine Eq.trans (congrArg (fun o => Option.bind o _) hset) ?_
    rw [Aa, Yl, Ahg, Fc (by simp; omega), Aa, Ag (by omega) (by omega), Ag (by omega) (by omega), Axn he0]
    have ih := Bc4 hp h1 h6 hn j (a + (Kg ch p N a out).2.1.toNat) q (out ++ [(Kg ch p N a out).1]) (by simp; omega) (by omega) (by omega)
    rw [List.length_append, List.length_singleton] at ih
    exact ih
theorem Bgw {p : List UInt8} (hN : N = 8 * p.length) (hN2 : N ≤ 330000) (h1 : 1 ≤ ch) (h6 : ch ≤ 6) (hn : n * ch ≤ 4000) : ∀ (j a q : Nat) (out : List UInt32), out.length + j = n * ch → j < q → a ≤ N →
  De (ch : Int) (n : Int) p q (a : Int) (out.length : Int) out =
   if (Wj ch p N j a out).2.2 ≠ 0 then some ((Wj ch p N j a out).1, (Wj ch p N j a out).2.2) else Ll ((Wj ch p N j a out).2.1 : Int) p (Wj ch p N j a out).1
 | j, a, q + 1, out, hj, hq, ha => by
  have hnn : n ≤ n * ch := Nat.le_mul_of_pos_right n (by omega)
  have em : Bo (n : Int) (ch : Int) = ((n * ch : Nat) : Int) := by rw [Hs (by rw [← Int.natCast_mul]; omega) (by rw [← Int.natCast_mul]; omega), Int.natCast_mul]
  have e8 : Bo (8 : Int) (Ac p) = (N : Int) := by rw [Ac, Hs (by omega) (by omega)]; omega
  rw [De, Ty, em]
  cases j with
  | zero =>
   rw [if_neg (by rw [Ae]; simp; omega)]; rfl
  | succ j =>
   have ew : Gt (Af (a : Int) 81) (N : Int) = ((a + win N a : Nat) : Int) := by rw [Ai5, Ag (by omega) (by omega)]; unfold win; omega
   have hw : a + win N a ≤ N := by unfold win; omega
   have hw2 : win N a ≤ 81 := by unfold win; omega
   have hpre : (Option.bind Ii fun (r_4, r_5, r_6, r_7) =>
     if (Sd (out.length : Int) (ch : Int)) = true then (
     Option.bind (Jw (ch : Int) out) fun (r_8, r_9, r_10, r_11) =>
     Fm (De (ch : Int) (n : Int) p q) (ch : Int) (n : Int) p (a : Int) (out.length : Int) out r_8 r_9 r_10 r_11)
     else Fm (De (ch : Int) (n : Int) p q) (ch : Int) (n : Int) p (a : Int) (out.length : Int) out r_4 r_5 r_6 r_7) =
     Fm (De (ch : Int) (n : Int) p q) (ch : Int) (n : Int) p (a : Int) (out.length : Int) out ((now ch out).1 : Int) ((now ch out).2.1 : Int) (now ch out).2.2.1 (now ch out).2.2.2 := by
    rw [Ii, Aa]
    by_cases hc : ch ≤ out.length
    ·simp only
     rw [if_pos (by rw [Dt]; simp; omega), Bhv ch out h1 h6 (by omega), Aa]; rfl
    ·have e : now ch out = Az1 := by rw [now, Nat.mod_eq_of_lt (by omega), Azk ch out _ _ (Nat.le_refl _) (by omega)]
     simp only
     rw [if_neg (by rw [Dt]; simp; omega), e]; rfl
   have hd := Bl8 (Bhg p a (win N a) (by omega)) 0 (now ch out).1 (now ch out).2.1 (now ch out).2.2.1 (now ch out).2.2.2 (Are ch out _ _).1 (Are ch out _ _).2.1
   have ecode : dgS (Acu p a (win N a)) (win N a) 0 (now ch out).1 (now ch out).2.1 = Kg ch p N a out := rfl
   rw [if_pos (by rw [Ae]; simp; omega), hpre, Fm, Acb, e8, ew, Bbg p (N : Int) a _ (by omega) (by omega) (by omega), Aa]
   simp only
   refine Eq.trans (congrArg (fun o => Option.bind o _) hd) ?_
   rw [Aa, ecode, Wj]
   by_cases he : (Kg ch p N a out).2.2 ≠ 0
   ·rw [if_pos he, if_pos (by rw [Au]; simpa using he), if_pos he]
   ·have he0 : (Kg ch p N a out).2.2 = 0 := by simpa using he
    have hok := Anq he0
    have ih := Bgw hN hN2 h1 h6 hn j (a + (Kg ch p N a out).2.1.toNat) q (out ++ [(Kg ch p N a out).1]) (by simp; omega) (by omega) (by omega)
    have hx := Axn he0
    rw [List.length_append, List.length_singleton] at ih
    rw [if_neg he]
    generalize Kg ch p N a out = R at *
    obtain ⟨v, nx, e⟩ := R
    simp only at *
    rw [if_neg (by rw [Au]; simpa using he), Fc (by simp; omega), Aa, Ag (by omega) (by omega), Ag (by omega) (by omega), hx]
    exact ih
end
theorem Atk {ch : Nat} {p : List UInt8} {N : Nat} : ∀ (j a : Nat) (out : List UInt32), a ≤ N → (Wj ch p N j a out).2.1 ≤ N ∧ (Wj ch p N j a out).1.length ≤ out.length + j ∧ ((Wj ch p N j a out).2.2 = 0 → (Wj ch p N j a out).1.length = out.length + j)
 | 0, a, out, h => ⟨h, Nat.le_refl _, fun _ => rfl⟩
 | j + 1, a, out, h => by
  rw [Wj]
  split
  ·rename_i he
   exact ⟨h, by simp, fun e => absurd e he⟩
  ·rename_i he
   have hok := Anq (ch := ch) (p := p) (N := N) (a := a) (out := out) (by simpa using he)
   have hw : a + win N a ≤ N := by unfold win; omega
   have ih := Atk (ch := ch) (p := p) (N := N) j (a + (Kg ch p N a out).2.1.toNat) (out ++ [(Kg ch p N a out).1]) (by omega)
   rw [List.length_append, List.length_singleton] at ih
   exact ⟨ih.1, by omega, fun e => by have := ih.2.2 e; omega⟩
theorem Bbf (ch n : Int) (b : List UInt8) (N : Int) : Qw ch n b N 0 (List.replicate 6 ((0 : Int), (0 : Int), (0 : UInt64), (0 : UInt64), ())) = Yi ch n b N (List.replicate 6 ((10 : Int), (10 : Int), (16384 : UInt64), (16384 : UInt64), ())) := by
 have e : Bc = (Bc - 7) + 1 + 1 + 1 + 1 + 1 + 1 + 1 := by have := Ay; omega
 rw [Qw, e]
 rfl
theorem values_eq {p : List UInt8} {N ch n : Nat} (hp : okB p N) (h1 : 1 ≤ ch) (h6 : ch ≤ 6) (hn : n * ch ≤ 4000) : Aao (ch : Int) (n : Int) p (N : Int) =
  some (if (Wj ch p N (n * ch) 0 []).2.2 ≠ 0 then ([], 0, (Wj ch p N (n * ch) 0 []).2.2) else ((Wj ch p N (n * ch) 0 []).1, ((Wj ch p N (n * ch) 0 []).2.1 : Int), 0)) := by
 have h := Bc4 hp h1 h6 hn (n * ch) 0 Bc [] (by simp) (by have := Ay; omega) (by omega)
 rw [Aao, Zy, Bbf]
 exact h
theorem Ax5 (p : List UInt8) (x : List UInt32) (N : Nat) (hN : N = 8 * p.length) (hN2 : N ≤ 330000) : ∀ (j a q : Nat), a + j = N → j < q → Fh p x q (a : Int) = some (x, if Bw p a j = 0 then 0 else 12)
 | 0, a, q + 1, ha, _ => by
  have e8 : Bo (8 : Int) (Ac p) = (N : Int) := by rw [Ac, Hs (by omega) (by omega)]; omega
  rw [Fh, Lu, e8, if_neg (by rw [Ae]; simp; omega), Bw, if_pos rfl]; rfl
 | j + 1, a, q + 1, ha, hq => by
  have e8 : Bo (8 : Int) (Ac p) = (N : Int) := by rw [Ac, Hs (by omega) (by omega)]; omega
  have hb := Xs p a
  rw [Fh, Lu, e8, if_pos (by rw [Ae]; simp; omega), Aro p _ a (by omega) (by omega), Aa, Bw]
  by_cases h : Jj p a = 0
  ·rw [if_neg (by rw [Au]; simp [h]), Ag (by omega) (by omega), h]
   have ih := Ax5 p x N hN hN2 j (a + 1) q (by omega) (by omega)
   rw [show ((a : Int) + 1) = ((a + 1 : Nat) : Int) by omega, ih]
   congr 2
   by_cases hv : Bw p (a + 1) j = 0
   ·rw [if_pos hv, if_pos (by omega)]
   ·rw [if_neg hv, if_neg (by omega)]
  ·rw [if_pos (by rw [Au]; simp; omega), if_neg (by omega)]
theorem Bf4 {p : List UInt8} {N ch n : Nat} (hN : N = 8 * p.length) (hN2 : N ≤ 330000) (h1 : 1 ≤ ch) (h6 : ch ≤ 6) (hn : n * ch ≤ 4000) : Uo (ch : Int) (n : Int) p =
  some (if (Wj ch p N (n * ch) 0 []).2.2 ≠ 0 then ((Wj ch p N (n * ch) 0 []).1, (Wj ch p N (n * ch) 0 []).2.2) else
   ((Wj ch p N (n * ch) 0 []).1, if 7 < N - (Wj ch p N (n * ch) 0 []).2.1 ∨ Bw p (Wj ch p N (n * ch) 0 []).2.1 (N - (Wj ch p N (n * ch) 0 []).2.1) ≠ 0 then 12 else 0)) := by
 have h := Bgw hN hN2 h1 h6 hn (n * ch) 0 Bc [] (by simp) (by have := Ay; omega) (by omega)
 have hat := (Atk (ch := ch) (p := p) (N := N) (n * ch) 0 [] (by omega)).1
 have e8 : Bo (8 : Int) (Ac p) = (N : Int) := by rw [Ac, Hs (by omega) (by omega)]; omega
 rw [Uo, Vq]
 refine Eq.trans h ?_
 generalize Wj ch p N (n * ch) 0 [] = V at *
 obtain ⟨v, a, e⟩ := V
 simp only at *
 by_cases he : e ≠ 0
 ·rw [if_pos he, if_pos he]
 ·rw [if_neg he, if_neg he, Ll, Tx, e8, Ce (by omega) (by omega)]
  by_cases h7 : 7 < N - a
  ·rw [if_pos (by rw [Bb]; simp; omega), if_pos (.inl h7)]
  ·rw [if_neg (by rw [Bb]; simp; omega), Ts, Ax5 p v N hN hN2 (N - a) a Bc (by omega) (by have := Ay; omega)]
   by_cases hv : Bw p a (N - a) = 0
   ·rw [if_pos hv, if_neg (by omega)]
   ·rw [if_neg hv, if_pos (.inr hv)]
end Go.Pl
set_option linter.unusedVariables false
set_option linter.unusedSimpArgs false
namespace Go.Pl
open Go Go.Lv
theorem Azd (n : Int) : (GI.ofZ n : Int32) = Int32.ofInt n := rfl
theorem Ah1 (a : Int32) : GI.toZ a = a.toInt := rfl
theorem Ajd (a b : Int32) : Af a b = a + b := by
 rw [Af, Ah1, Ah1, Azd, Int32.ofInt_add, Int32.ofInt_toInt, Int32.ofInt_toInt]
theorem Awi (a b : Int32) : Ao a b = a - b := by
 rw [Ao, Ah1, Ah1, Azd, Int32.ofInt_sub, Int32.ofInt_toInt, Int32.ofInt_toInt]
theorem Bgn (a b : Int32) : geq a b = (a == b) := by
 rw [geq, Ah1, Ah1, Bool.eq_iff_iff]; simp [Int32.toInt_inj]
def sel (p : Nat → Bool) (a b : List Int32) : List Int32 := (List.range a.length).map fun k => if p k = true then a.getD k 0 else b.getD k 0
section
variable {p q : Nat → Bool} {a b : List Int32}
theorem Aj9 : (sel p a b).length = a.length := by simp [sel]
theorem Ly {k : Nat} (h : k < a.length) : a.getD k 0 = a[k] := by simp [List.getD_eq_getElem?_getD, h]
theorem Zq {k : Nat} (h : k < (sel p a b).length) : (sel p a b)[k] = if p k = true then a.getD k 0 else b.getD k 0 := by simp [sel]
theorem Ah6 {k : Nat} (h : k < a.length) : Aj (sel p a b) (k : Int) = some (if p k = true then a.getD k 0 else b.getD k 0) := by
 rw [Dk (by rw [Aj9]; exact h), Zq]
theorem Zk (h : ∀ k, k < a.length → p k = q k) : sel p a b = sel q a b := by
 apply List.map_congr_left
 intro k hk
 rw [h k (List.mem_range.1 hk)]
theorem Aqx {k : Nat} (h : k < a.length) : Qk (sel p a b) (k : Int) (a.getD k 0) = some (sel (fun j => p j || decide (j = k)) a b) := by
 rw [Wu _ (by rw [Aj9]; exact h)]
 congr 1
 apply List.ext_getElem (by simp [Aj9])
 intro i h1 h2
 rw [List.getElem_set, Zq, Zq]
 by_cases hi : k = i
 ·subst hi; simp
 ·have : ¬ i = k := fun e => hi e.symm
  simp [hi, this]
theorem Aqb (h : ∀ k, k < a.length → p k = true) : sel p a b = a := by
 apply List.ext_getElem (by simp [Aj9])
 intro i h1 h2
 rw [Zq, if_pos (h i h2), Ly h2]
theorem Aqj (hl : b.length = a.length) (h : ∀ k, k < a.length → p k = false) : sel p a b = b := by
 apply List.ext_getElem (by simp [Aj9, hl])
 intro i h1 h2
 rw [Zq, h i (by omega)]
 simp [List.getD_eq_getElem?_getD, h2]
end
end Go.Pl
set_option linter.unusedVariables false
set_option linter.unusedSimpArgs false
namespace Go.Pl
open Go Go.Lv
theorem Av5 (a b : Int32) : Bo a b = a * b := by
 rw [Bo, Ah1, Ah1, Azd, Int32.ofInt_mul, Int32.ofInt_toInt, Int32.ofInt_toInt]
theorem Aa0 (a : Int32) : -2147483648 ≤ a.toInt ∧ a.toInt < 2147483648 := ⟨a.le_toInt, a.toInt_lt⟩
theorem El (a : Int32) : (Ad a : Int) = a.toInt := by
 have := Aa0 a
 show wrap64 a.toInt = _
 rw [By] <;> omega
theorem Afw (n : Int) : (Ad n : Int32) = Int32.ofInt n := rfl
theorem Bih (x : Int) : Int32.ofInt (x % 4294967296) = Int32.ofInt x := by
 apply Int32.toInt_inj.1
 rw [Int32.toInt_ofInt, Int32.toInt_ofInt]
 exact Int.emod_bmod x 4294967296
theorem Atg (x : Int) : Bq x = some (Int32.ofInt x) := by
 have e1 : (Ad x : UInt64).toNat = (x % 18446744073709551616).toNat := by
  rw [Bbn, UInt64.toNat_ofNat', Nat.mod_eq_of_lt (by omega)]
 have e2 : (Ad (Ad x : UInt64) : UInt32).toNat = (x % 4294967296).toNat := by
  have e : (Ad (Ad x : UInt64) : UInt32) = UInt32.ofNat (Ad x : UInt64).toNat := by simp only [Ad, Ht, Dy]
  rw [e, UInt32.toNat_ofNat', e1]
  show (x % 18446744073709551616).toNat % 4294967296 = _
  omega
 have e3 : (Ad (Ad (Ad x : UInt64) : UInt32) : Int32) = Int32.ofInt ((Ad (Ad x : UInt64) : UInt32).toNat : Int) := rfl
 rw [Bq, e3, e2, ← Bih x]
 congr 2; omega
theorem Aq9 (a b : Int32) : Bq (Af (Ad a : Int) (Ad b : Int)) = some (a + b) := by
 have := Aa0 a
 have := Aa0 b
 rw [El, El, Ag (by omega) (by omega), Atg, Int32.ofInt_add, Int32.ofInt_toInt, Int32.ofInt_toInt]
theorem Blu (a b : Int32) : Bq (Bo (Ad a : Int) (Ad b : Int)) = some (a * b) := by
 have ha := Aa0 a
 have hb := Aa0 b
 have h1 : -9223372036854775808 ≤ a.toInt * b.toInt ∧ a.toInt * b.toInt ≤ 9223372036854775807 := by
  have h2 : (a.toInt * b.toInt).natAbs ≤ 2147483648 * 2147483648 := by
   rw [Int.natAbs_mul]; exact Nat.mul_le_mul (by omega) (by omega)
  omega
 rw [El, El, Hs h1.1 h1.2, Atg, Int32.ofInt_mul, Int32.ofInt_toInt, Int32.ofInt_toInt]
def OkF (s : Int) (t p : List Int32) : Prop := (s = 9 ∨ s = 10) ∧ t.length = 16 ∧ p.length = 16
theorem Arr {s : Int} {t p : List Int32} (h : OkF s t p) : Aci s t p = some 0 := by
 obtain ⟨rfl | rfl, _, _⟩ := h <;> rfl
theorem g32 {l : List Int32} {k : Nat} (h : k < l.length) : Aj l (k : Int) = some (l.getD k 0) := by
 rw [Dk h]; simp [List.getD_eq_getElem?_getD, h]
def Am6 (t p : List Int32) : Nat → Int32
 | 0 => 0
 | i + 1 => Am6 t p i + t.getD i 0 * p.getD i 0
def half (s : Int) : Int32 := if s = 9 then 256 else 512
def gF (s : Int) (t p : List Int32) : Int32 := Int32.ofInt ((half s + Am6 t p 16).toInt.fdiv (if s = 9 then 512 else 1024))
theorem Ayp {s : Int} {t p : List Int32} (h : OkF s t p) : ∀ (j i q : Nat), i + j = 16 → j < q → Se t s p q (half s + Am6 t p i) (i : Int) = some (gF s t p, 0)
 | 0, i, q + 1, hi, _ => by
  obtain rfl : i = 16 := by omega
  have hs := h.1
  rw [Se, Acz, if_neg (by rw [Ae]; simp), Aiz, Aoq, Cu (by rw [Dt]; simp; omega), Aa]
  obtain rfl | rfl := hs <;> rfl
 | j + 1, i, q + 1, hi, hq => by
  obtain ⟨hs, ht, hp⟩ := h
  rw [Se, Acz, if_pos (by rw [Ae]; simp; omega), g32 (by omega), Aa, g32 (by omega), Aa, Aa, Ag (b := 1) (by omega) (by omega), Ajd, Av5, Int32.add_assoc]
  exact Ayp ⟨hs, ht, hp⟩ j (i + 1) q (by omega) (by omega)
theorem Bm5 {s : Int} {t p : List Int32} (h : OkF s t p) : Akf s t p = some (gF s t p, 0) := by
 have hs := h.1
 have h1 := Ayp h 16 0 Bc (by omega) (by have := Ay; omega)
 have e : Ff (1 : Int32) (GI.toZ (Ao s (1 : Int))).toNat = half s + Am6 t p 0 := by
  obtain rfl | rfl := hs <;> rfl
 rw [Akf, Ai1, Arr h, Aa, if_neg (by rw [Au]; simp), Cu (by rw [Dt, Ce (by omega) (by omega)]; simp; omega), Aa, Ai3, e]
 exact h1
theorem Atv {s : Int} {t p : List Int32} (ht : t.length = 16) (hp : p.length = 16) {g : Int32} (hg : Am6 t p 16 = g) : ∀ (j i q : Nat), i + j = 16 → j < q → Hh s t p q (Am6 t p i).toInt (i : Int) = some g
 | 0, i, q + 1, hi, _ => by
  obtain rfl : i = 16 := by omega
  rw [Hh, Ox, if_neg (by rw [Ae]; simp), Xi, Ae8, Afw, Int32.ofInt_toInt, hg]
 | j + 1, i, q + 1, hi, hq => by
  have ih := Atv (s := s) ht hp hg j (i + 1) q (by omega) (by omega)
  rw [Am6] at ih
  rw [Hh, Ox, if_pos (by rw [Ae]; simp; omega), g32 (by omega), g32 (by omega), Aa, Aa, Aa, Aa, Blu, Aa, ← El (Am6 t p i), Aq9, Aa, El, Ag (by omega) (by omega)]
  exact ih
theorem Bl3 {s : Int} {t p : List Int32} (h : OkF s t p) : Acn s t p = some (Am6 t p 16) :=
 Atv h.2.1 h.2.2 rfl 16 0 Bc (by omega) (by have := Ay; omega)
theorem Bh8 (x n : Int) (hn : n = 512 ∨ n = 1024 ∨ n = 16 ∨ n = 32) : (if x.tmod n < 0 then x.tdiv n - 1 else x.tdiv n) = x.fdiv n := by
 have hs : n.sign = 1 := by obtain rfl | rfl | rfl | rfl := hn <;> rfl
 rw [Int.tdiv_eq_ediv, Int.tmod_eq_emod, hs, Int.fdiv_eq_ediv_of_nonneg _ (by omega)]
 by_cases h : 0 ≤ x ∨ n ∣ x
 ·rw [if_pos h, if_pos h]
  obtain rfl | rfl | rfl | rfl := hn <;> (rw [if_neg (by omega)]; omega)
 ·rw [if_neg h, if_neg h]
  obtain rfl | rfl | rfl | rfl := hn <;> (rw [if_pos (by omega)]; omega)
theorem Aw3 (x n : Int) (hn : n = 512 ∨ n = 1024 ∨ n = 16 ∨ n = 32) (h : -1000000000000 ≤ x) (h' : x ≤ 1000000000000) : -1000000000000 ≤ x.tdiv n ∧ x.tdiv n ≤ 1000000000000 := by
 have hs : n.sign = 1 := by obtain rfl | rfl | rfl | rfl := hn <;> rfl
 rw [Int.tdiv_eq_ediv, hs]
 by_cases h : 0 ≤ x ∨ n ∣ x
 ·rw [if_pos h]; obtain rfl | rfl | rfl | rfl := hn <;> omega
 ·rw [if_neg h]; obtain rfl | rfl | rfl | rfl := hn <;> omega
theorem Bsb (x n : Int) (hn : n = 512 ∨ n = 1024 ∨ n = 16 ∨ n = 32) (h : -1000000000000 ≤ x) (h' : x ≤ 1000000000000) : Cw x n = x.tdiv n := by
 have := Aw3 x n hn h h'
 rw [Aer, By (by omega) (by omega)]
theorem Bbr (x n : Int) (hn : n = 512 ∨ n = 1024 ∨ n = 16 ∨ n = 32) (h : -1000000000000 ≤ x) (h' : x ≤ 1000000000000) :
  (if (Dg (Kf x n) (0 : Int)) = true then some (Ad (Ao (Cw x n) (1 : Int)) : Int32) else some (Ad (Cw x n) : Int32)) = some (Int32.ofInt (x.fdiv n)) := by
 have hb := Aw3 x n hn h h'
 rw [Ae, Kf, Bsb x n hn h h', Ce (by omega) (by omega), Afw, Afw, ← Bh8 x n hn]
 by_cases hx : x.tmod n < 0
 ·rw [if_pos (by simpa using hx), if_pos hx]
 ·rw [if_neg (by simpa using hx), if_neg hx]
theorem Bpv {s : Int} {t p : List Int32} (h : OkF s t p) : Uh s t p = some (gF s t p) := by
 obtain ⟨hs, ht, hp⟩ := h
 have h : OkF s t p := ⟨hs, ht, hp⟩
 have hx := Aa0 (Am6 t p 16 + half s)
 have key : ∀ n : Int, (n = 512 ∨ n = 1024) → (half s).toInt = n / 2 → gF s t p = Int32.ofInt ((half s + Am6 t p 16).toInt.fdiv n) → Mv s t p n = some (gF s t p) := by
  intro n hn hh hg
  have e2 : Cw n (2 : Int) = (half s).toInt := by rw [hh]; obtain rfl | rfl := hn <;> rfl
  rw [Mv, Aeb, Bl3 h, Aa, e2, ← El (half s), Aq9, Aa, Cu (by rw [Au]; simp; omega), Aa, Aa, El, Bbr _ n (by omega) (by omega) (by omega), hg, Int32.add_comm]
 rw [Uh, Uv]
 obtain rfl | rfl := hs
 ·rw [if_pos (by rw [Be]; rfl)]; exact key 512 (.inl rfl) rfl rfl
 ·rw [if_neg (by rw [Be]; decide)]; exact key 1024 (.inr rfl) rfl rfl
def stp (i : Nat) : Int32 := if i = 0 then 4 else if i < 4 then 2 else 1
def sg (x : Int32) : Int32 := if x.toInt < 0 then -1 else if 0 < x.toInt then 1 else 0
def lrn (t p : List Int32) (w : Int32) : List Int32 := (List.range 16).map fun i => t.getD i 0 + stp i * sg (p.getD i 0) * sg w
theorem Ac5 (t p : List Int32) (w : Int32) : (lrn t p w).length = 16 := by simp [lrn]
theorem Azw (t p : List Int32) (w : Int32) {i : Nat} (h : i < 16) : (lrn t p w).getD i 0 = t.getD i 0 + stp i * sg (p.getD i 0) * sg w := by
 rw [Ly (by rw [Ac5]; exact h)]; simp [lrn]
theorem step_eq (i : Nat) : Aj1 (i : Int) = some (stp i) := by
 rw [Aj1, stp]
 by_cases h : i = 0
 ·rw [if_pos (by rw [Be]; simp [h]), if_pos h]
 ·rw [if_neg (by rw [Be]; simp; omega), if_neg h]
  by_cases h2 : i < 4
  ·rw [if_pos (by rw [Ae]; simp; omega), if_pos h2]
  ·rw [if_neg (by rw [Ae]; simp; omega), if_neg h2]
theorem Bjc (i : Nat) : Ug (i : Int) = some (stp i) := by
 rw [Ug, stp]
 by_cases h : i = 0
 ·rw [if_pos (by rw [Be]; simp [h]), if_pos h]
 ·rw [if_neg (by rw [Be]; simp; omega), if_neg h]
  by_cases h2 : i < 4
  ·rw [if_pos (by rw [Aln]; simp; omega), if_pos h2]
  ·rw [if_neg (by rw [Aln]; simp; omega), if_neg h2]
theorem Azt (a b : Int32) : Dg a b = decide (a.toInt < b.toInt) := rfl
theorem Bei (a b : Int32) : Ga a b = decide (b.toInt < a.toInt) := rfl
theorem sign_eq (x : Int32) : Mx x = some (sg x) := by
 rw [Mx, sg, Azt, Bei, show (0 : Int32).toInt = 0 from rfl]
 by_cases h : x.toInt < 0
 ·rw [if_pos (by simpa using h), if_pos h]
 ·rw [if_neg (by simpa using h), if_neg h]
  by_cases h2 : 0 < x.toInt
  ·rw [if_pos (by simpa using h2), if_pos h2]
  ·rw [if_neg (by simpa using h2), if_neg h2]
theorem Bf6 : sg 0 = 0 := rfl
theorem toInt_ne {x : Int32} (h : x ≠ 0) : x.toInt ≠ 0 := fun e => h (Int32.toInt_inj.1 (by rw [e]; rfl))
theorem Bai {x : Int32} (h : x.toInt < 0) : sg x = -1 := by rw [sg, if_pos h]
theorem Azu {x : Int32} (h : x ≠ 0) (h2 : ¬ x.toInt < 0) : sg x = 1 := by
 have := toInt_ne h
 rw [sg, if_neg h2, if_pos (by omega)]
theorem Anu (i : Nat) : stp i = 4 ∨ stp i = 2 ∨ stp i = 1 := by
 unfold stp
 by_cases h : i = 0
 ·rw [if_pos h]; exact .inl rfl
 ·rw [if_neg h]; split; exact .inr (.inl rfl); exact .inr (.inr rfl)
theorem Bi9 {x w : Int32} (hx : x ≠ 0) (hw : w ≠ 0) (h : (x.toInt < 0) = (w.toInt < 0)) (i : Nat) : stp i * sg x * sg w = stp i := by
 by_cases h1 : x.toInt < 0
 ·rw [Bai h1, Bai (by rw [← h]; exact h1)]
  obtain e | e | e := Anu i <;> rw [e] <;> decide
 ·rw [Azu hx h1, Azu hw (by rw [← h]; exact h1)]
  obtain e | e | e := Anu i <;> rw [e] <;> decide
theorem Bes {x w : Int32} (hx : x ≠ 0) (hw : w ≠ 0) (h : ¬ (x.toInt < 0) = (w.toInt < 0)) (i : Nat) (a : Int32) : a + stp i * sg x * sg w = a - stp i := by
 have key : stp i * sg x * sg w = - stp i := by
  by_cases h1 : x.toInt < 0
  ·have h2 : ¬ w.toInt < 0 := fun h2 => h (propext ⟨fun _ => h2, fun _ => h1⟩)
   rw [Bai h1, Azu hw h2]
   obtain e | e | e := Anu i <;> rw [e] <;> decide
  ·have h2 : w.toInt < 0 := Decidable.by_contra fun h2 => h (propext ⟨fun h3 => absurd h3 h1, fun h3 => absurd h3 h2⟩)
   rw [Azu hx h1, Bai h2]
   obtain e | e | e := Anu i <;> rw [e] <;> decide
 rw [key, Int32.sub_eq_add_neg]
def Aq2 (i : Nat) : Nat → Bool := fun j => decide (j < i)
theorem Avo {a b : List Int32} {i : Nat} (h : i < a.length) : Qk (sel (Aq2 i) a b) (i : Int) (a.getD i 0) = some (sel (Aq2 (i + 1)) a b) := by
 rw [Aqx h]
 congr 1
 apply Zk
 intro k _
 rw [Bool.eq_iff_iff]
 simp only [Aq2, Bool.or_eq_true, decide_eq_true_eq]; omega
theorem Bh6 {a b : List Int32} {i : Nat} (e : a.getD i 0 = b.getD i 0) : sel (Aq2 i) a b = sel (Aq2 (i + 1)) a b := by
 apply List.map_congr_left
 intro k _
 simp only [Aq2, decide_eq_true_eq]
 by_cases h1 : k < i
 ·rw [if_pos h1, if_pos (by omega)]
 ·by_cases h2 : k = i
  ·subst h2; rw [if_neg h1, if_pos (by omega), e]
  ·rw [if_neg h1, if_neg (by omega)]
theorem Ba8 {a b : List Int32} {i : Nat} (h : i < a.length) : Aj (sel (Aq2 i) a b) (i : Int) = some (b.getD i 0) := by
 rw [Ah6 h, if_neg (by simp [Aq2])]
theorem Ayj {s : Int} {t p : List Int32} {w : Int32} (hw : w ≠ 0) (ht : t.length = 16) (hp : p.length = 16) : ∀ (j i q : Nat), i + j = 16 → j < q → Sk w p s q (i : Int) (sel (Aq2 i) (lrn t p w) t) = some (s, lrn t p w, p, 0)
 | 0, i, q + 1, hi, _ => by
  obtain rfl : i = 16 := by omega
  rw [Sk, Ada, if_neg (by rw [Ae]; simp), Aqb (fun k hk => by rw [Ac5] at hk; simpa [Aq2] using hk)]; rfl
 | j + 1, i, q + 1, hi, hq => by
  have hl := Ac5 t p w
  have hg := Azw t p w (i := i) (by omega)
  rw [Sk, Ada, if_pos (by rw [Ae]; simp; omega), g32 (by omega), Aa, Ag (b := 1) (by omega) (by omega), Ba8 (by omega), step_eq]
  simp only [Aa]
  rw [Ajd, Awi, Bgn, Azt, Azt, show (0 : Int32).toInt = 0 from rfl]
  have ih := Ayj (s := s) hw ht hp j (i + 1) q (by omega) (by omega)
  by_cases hx : p.getD i 0 = 0
  ·rw [if_pos (by rw [hx]; rfl), Bh6 (by rw [hg, hx, Bf6, Int32.mul_zero, Int32.zero_mul, Int32.add_zero])]
   exact ih
  ·rw [if_neg (by simpa using hx)]
   by_cases hs : ((p.getD i 0).toInt < 0) = (w.toInt < 0)
   ·rw [if_pos (by rw [beq_iff_eq]; simp only [hs]), show t.getD i 0 + stp i = (lrn t p w).getD i 0 by rw [hg, Bi9 hx hw hs], Avo (by omega), Aa]
    exact ih
   ·rw [if_neg (by rw [beq_iff_eq, decide_eq_decide]; exact fun h => hs (propext h)), show t.getD i 0 - stp i = (lrn t p w).getD i 0 by rw [hg, Bes hx hw hs], Avo (by omega), Aa]
    exact ih
theorem Bk4 {t : List Int32} (p : List Int32) (ht : t.length = 16) : lrn t p 0 = t := by
 apply List.ext_getElem (by rw [Ac5, ht])
 intro i h1 h2
 have := Azw t p 0 (i := i) (by omega)
 rw [Ly h1, Ly h2] at this
 rw [this, Bf6, Int32.mul_zero, Int32.add_zero]
theorem Bmk {s : Int} {t p : List Int32} (h : OkF s t p) (w : Int32) : Ala s t p w = some (s, lrn t p w, p, 0) := by
 rw [Ala, Aiv, Arr h, Aa, if_neg (by rw [Au]; simp), Bgn]
 by_cases hw : w = 0
 ·rw [if_pos (by simpa using hw), hw, Bk4 p h.2.1]
 ·have h1 := Ayj (s := s) hw h.2.1 h.2.2 16 0 Bc (by omega) (by have := Ay; omega)
  rw [Aqj (by rw [Ac5, h.2.1]) (fun k _ => by simp [Aq2])] at h1
  rw [if_neg (by simpa using hw)]
  exact h1
theorem Ap0 {s : Int} {t p : List Int32} {w : Int32} (ht : t.length = 16) (hp : p.length = 16) : ∀ (j i q : Nat), i + j = 16 → j < q → Ek w s p q (i : Int) (sel (Aq2 i) (lrn t p w) t) = some (s, lrn t p w, p)
 | 0, i, q + 1, hi, _ => by
  obtain rfl : i = 16 := by omega
  rw [Ek, Je, if_neg (by rw [Ae]; simp), Aqb (fun k hk => by rw [Ac5] at hk; simpa [Aq2] using hk)]; rfl
 | j + 1, i, q + 1, hi, hq => by
  have hl := Ac5 t p w
  have hg := Azw t p w (i := i) (by omega)
  rw [Ek, Je, if_pos (by rw [Ae]; simp; omega), g32 (l := p) (by omega), Ag (b := 1) (by omega) (by omega), Ba8 (by omega), Bjc, sign_eq w, Aa, Aa, Aa, Aa, Aa, sign_eq, Aa, Aa, Aa, Ajd, Av5, Av5, ← hg, Avo (by omega), Aa]
  exact Ap0 ht hp j (i + 1) q (by omega) (by omega)
theorem Bep {s : Int} {t p : List Int32} (h : OkF s t p) (w : Int32) : Vj s t p w = some (s, lrn t p w, p) := by
 have h1 := Ap0 (s := s) (w := w) h.2.1 h.2.2 16 0 Bc (by omega) (by have := Ay; omega)
 rw [Aqj (by rw [Ac5, h.2.1]) (fun k _ => by simp [Aq2])] at h1
 exact h1
theorem Bod {p : List Int32} (h : p.length = 16) : ∃ a0 a1 a2 a3 a4 a5 a6 a7 a8 a9 b0 b1 b2 b3 b4 b5, p = [a0, a1, a2, a3, a4, a5, a6, a7, a8, a9, b0, b1, b2, b3, b4, b5] := by
 match p, h with
 | [a0, a1, a2, a3, a4, a5, a6, a7, a8, a9, b0, b1, b2, b3, b4, b5], _ => exact ⟨a0, a1, a2, a3, a4, a5, a6, a7, a8, a9, b0, b1, b2, b3, b4, b5, rfl⟩
theorem Bo1 {s : Int} {t p : List Int32} (h : OkF s t p) (x : Int32) : Ans s t p x = some (s, t, x :: p.take 15, 0) := by
 obtain ⟨hs, ht, hp⟩ := h
 rw [Ans, Afk, Arr ⟨hs, ht, hp⟩, Aa, if_neg (by rw [Au]; simp), show vwI (16 : Int) 1 16 = some () from rfl, Aa, show vwI (16 : Int) 0 16 = some () from rfl, Aa, Akq, Aqw]
 obtain ⟨a0, a1, a2, a3, a4, a5, a6, a7, a8, a9, b0, b1, b2, b3, b4, b5, rfl⟩ := Bod hp
 rfl
def shf (p : List Int32) (i : Nat) : List Int32 := (List.range 16).map fun k => if k ≤ i then p.getD k 0 else p.getD (k - 1) 0
theorem Xy (p : List Int32) (i : Nat) : (shf p i).length = 16 := by simp [shf]
theorem Box (p : List Int32) (i k : Nat) (h : k < 16) : (shf p i).getD k 0 = if k ≤ i then p.getD k 0 else p.getD (k - 1) 0 := by
 rw [Ly (by rw [Xy]; exact h)]; simp [shf]
theorem Bo0 (p : List Int32) (i : Nat) (h : i + 1 < 16) : Qk (shf p (i + 1)) ((i + 1 : Nat) : Int) (p.getD i 0) = some (shf p i) := by
 rw [Wu _ (by rw [Xy]; exact h)]
 congr 1
 apply List.ext_getElem (by simp [Xy])
 intro k h1 h2
 rw [Xy] at h2
 rw [List.getElem_set]
 simp only [shf, List.getElem_map, List.getElem_range]
 by_cases hk : i + 1 = k
 ·subst hk; rw [if_pos rfl, if_neg (by omega)]; rfl
 ·rw [if_neg hk]
  by_cases h3 : k ≤ i
  ·rw [if_pos (by omega), if_pos h3]
  ·rw [if_neg (by omega), if_neg h3]
theorem Asw (s : Int) (t p : List Int32) (x : Int32) (hp : p.length = 16) : ∀ (i q : Nat), i < 16 → i < q → Eu x s t q (i : Int) (shf p i) = some (s, t, x :: p.take 15)
 | 0, q + 1, _, _ => by
  have hg : Aj (shf p 0) (0 : Int) = some ((shf p 0).getD 0 0) := g32 (l := shf p 0) (k := 0) (by rw [Xy]; omega)
  have hset : Qk (shf p 0) (0 : Int) x = some ((shf p 0).set 0 x) := Wu (l := shf p 0) (n := 0) x (by rw [Xy]; omega)
  rw [Eu, Km, if_neg (by rw [Bb]; simp), Qu, Aa5, hg, Aa, hset, Aa]
  congr 3
  apply List.ext_getElem (by simp [Xy, hp])
  intro k h1 h2
  rw [List.length_set, Xy] at h1
  rw [List.getElem_set]
  cases k with
  | zero => rw [if_pos rfl]; rfl
  | succ k =>
   rw [if_neg (by omega)]
   simp only [shf, List.getElem_map, List.getElem_range, List.getElem_cons_succ, List.getElem_take]
   rw [if_neg (by omega), Nat.add_sub_cancel, Ly (by omega)]
 | i + 1, q + 1, hi, hq => by
  have hg := g32 (l := shf p (i + 1)) (k := i) (by rw [Xy]; omega)
  rw [Box p (i + 1) i (by omega), if_pos (by omega)] at hg
  have e1 : Ao ((i + 1 : Nat) : Int) (1 : Int) = (i : Int) := by rw [Ce (by omega) (by omega)]; omega
  have hg2 := g32 (l := shf p (i + 1)) (k := i + 1) (by rw [Xy]; omega)
  rw [Eu, Km, if_pos (by rw [Bb]; simp), e1, hg, Aa, Aa, hg2, Aa, Bo0 p i hi, Aa]
  exact Asw s t p x hp i q (by omega) (by omega)
theorem Bie {s : Int} {t p : List Int32} (hp : p.length = 16) (x : Int32) : Wx s t p x = some (s, t, x :: p.take 15) := by
 have h := Asw s t p x hp 15 Bc (by omega) (by have := Ay; omega)
 have e : shf p 15 = p := by
  apply List.ext_getElem (by rw [Xy, hp])
  intro k h1 h2
  rw [Xy] at h1
  simp only [shf, List.getElem_map, List.getElem_range]
  rw [if_pos (by omega), Ly h2]
 rw [e] at h
 exact h
theorem Bmz {s : Int} {t p : List Int32} (h : OkF s t p) (w x : Int32) : OkF s (lrn t p w) (x :: p.take 15) := ⟨h.1, Ac5 _ _ _, by simp [h.2.2]⟩
theorem Bn5 {s : Int} {t p : List Int32} (h : OkF s t p) (y : Int32) : Am4 s t p y = some (y + gF s t p, s, lrn t p y, (y + gF s t p) :: p.take 15, 0) := by
 rw [Am4, Bm5 h, Aa]
 simp only
 rw [if_neg (by rw [Au]; simp), Ajd, Apa, Bmk h, Aa]
 simp only
 rw [Bo1 (s := s) (t := lrn t p y) (p := p) ⟨h.1, Ac5 _ _ _, h.2.2⟩, Aa]; rfl
theorem Bjd {s : Int} {t p : List Int32} (h : OkF s t p) (y : Int32) : Nj s t p y = some (y + gF s t p, s, lrn t p y, (y + gF s t p) :: p.take 15) := by
 rw [Nj, Bpv h, Aa, Aq9, Aa, Bep h, Aa]
 simp only
 rw [Bie h.2.2, Aa]
def sB (bits : Int) : Int := if bits = 16 then 9 else 10
def shB (bits : Int) : Int := if bits = 8 then 4 else 5
def Du (bits : Int) : Prop := bits = 8 ∨ bits = 16 ∨ bits = 24
def gs (sh : Int) (last : Int32) : Int32 := Ad (Bam (Ao (Ff (Ad last : Int) sh.toNat) (Ad last)) sh.toNat)
theorem Bs6 (bits : Int) : sB bits = 9 ∨ sB bits = 10 := by unfold sB; split <;> simp
theorem Bpj (bits : Int) : 0 ≤ shB bits := by unfold shB; split <;> omega
theorem Bts {bits : Int} (h : Du bits) (t : List Int32) : Aqm bits t = some (sB bits, t, List.replicate 16 0, 0) := by
 obtain rfl | rfl | rfl := h <;> rfl
theorem Brh {bits : Int} (h : Du bits) : Amv bits = some (shB bits, 0) := by
 obtain rfl | rfl | rfl := h <;> rfl
theorem Bqv {sh : Int} (h : 0 ≤ sh) (last : Int32) : Ahw sh last = some (gs sh last) := by
 rw [Ahw, Cu (by rw [Dt]; simpa using h), Aa, Aa]; rfl
theorem Bq8 {bits : Int} (h : Du bits) (last : Int32) : Ad3 bits last = some (gs (shB bits) last, 0) := by
 rw [Ad3, Brh h, Aa]
 simp only
 rw [if_neg (by rw [Au]; simp), Bqv (Bpj bits), Aa]
theorem Bd6 {bits : Int} (h : Du bits) (last : Int32) (t p : List Int32) : Adp bits last (sB bits) t p = some 0 := by
 rw [Adp, Bts h, Aa]
 simp only
 rw [if_neg (by rw [Au, Au]; simp)]
theorem Bhs {bits : Int} (h : Du bits) {t p : List Int32} (hF : OkF (sB bits) t p) (last y : Int32) :
  Jr bits last (sB bits) t p y = some (y + gF (sB bits) t p + gs (shB bits) last, bits, y + gF (sB bits) t p + gs (shB bits) last, sB bits, lrn t p y, (y + gF (sB bits) t p) :: p.take 15, 0) := by
 rw [Jr, Bd6 h, Aa, if_neg (by rw [Au]; simp), Bq8 h, Aa]
 simp only
 rw [Bn5 hF, Aa]
 simp only
 rw [Ajd]
theorem Aru (sh : Int) (hs : sh = 4 ∨ sh = 5) (last : Int32) : Jv sh last = some (gs sh last) := by
 have hl := Aa0 last
 have key : ∀ n : Int, n = 16 ∨ n = 32 → gs sh last = Int32.ofInt (((n - 1) * last.toInt).fdiv n) → Kh last n = some (gs sh last) := by
  intro n hn hg
  have e : Bo (Ao n (1 : Int)) (Ad last : Int) = (n - 1) * last.toInt := by
   obtain rfl | rfl := hn <;> (rw [El, Ce (by omega) (by omega), Hs (by omega) (by omega)])
  rw [Kh, Zv, Cu (by rw [Au]; simp; omega), Aa, Aa, e, Bbr _ n (by omega) (by obtain rfl | rfl := hn <;> omega) (by obtain rfl | rfl := hn <;> omega), hg]
 rw [Jv, Qy]
 obtain rfl | rfl := hs
 ·rw [if_neg (by rw [Be]; decide)]
  refine key 16 (.inl rfl) ?_
  have e : Ff (Ad last : Int) (4 : Int).toNat = last.toInt * 16 := by
   rw [El]; show wrap64 (last.toInt * 2 ^ 4) = _; rw [By] <;> omega
  rw [gs, e, El, Ce (by omega) (by omega), Afw]
  show Int32.ofInt ((last.toInt * 16 - last.toInt).fdiv 16) = _
  congr 2; omega
 ·rw [if_pos (by rw [Be]; rfl)]
  refine key 32 (.inr rfl) ?_
  have e : Ff (Ad last : Int) (5 : Int).toNat = last.toInt * 32 := by
   rw [El]; show wrap64 (last.toInt * 2 ^ 5) = _; rw [By] <;> omega
  rw [gs, e, El, Ce (by omega) (by omega), Afw]
  show Int32.ofInt ((last.toInt * 32 - last.toInt).fdiv 32) = _
  congr 2; omega
theorem Bi7 {bits : Int} (h : Du bits) {t p : List Int32} (hF : OkF (sB bits) t p) (last y : Int32) :
  Gj bits last (sB bits) t p y = some (y + gF (sB bits) t p + gs (shB bits) last, bits, y + gF (sB bits) t p + gs (shB bits) last, sB bits, lrn t p y, (y + gF (sB bits) t p) :: p.take 15) := by
 have hb : Oz bits last (sB bits) t p = some (Ad (gs (shB bits) last) : Int) := by
  rw [Oz]
  obtain rfl | rfl | rfl := h
  ·rw [if_pos (by rw [Be]; rfl), Aru 4 (.inl rfl), Aa]; rfl
  ·rw [if_neg (by rw [Be]; decide), Aru 5 (.inr rfl), Aa]; rfl
  ·rw [if_neg (by rw [Be]; decide), Aru 5 (.inr rfl), Aa]; rfl
 rw [Gj, Bjd hF, Aa]
 simp only
 rw [hb, Aa, Aq9, Aa]
theorem Bsu {bits : Int} (h : Du bits) (t : List Int32) : Acf bits t = some (bits, 0, sB bits, t, List.replicate 16 0, 0) := by
 obtain rfl | rfl | rfl := h <;> rfl
def Alq (n : UInt32) : Int32 := if n.toNat % 2 = 0 then Int32.ofInt ((n.toNat / 2 : Nat) : Int) else Int32.ofInt (-((n.toNat / 2 : Nat) : Int) - 1)
theorem Bbd (a b : Int32) : (Xj a b).toBitVec = a.toBitVec ^^^ b.toBitVec := by
 show (Int32.ofInt ((BitVec.ofInt 32 a.toBitVec.toInt ^^^ BitVec.ofInt 32 b.toBitVec.toInt).toNat : Int)).toBitVec = _
 rw [BitVec.ofInt_toInt, BitVec.ofInt_toInt, Int32.toBitVec_ofInt, BitVec.ofInt_natCast, BitVec.ofNat_toNat, BitVec.setWidth_eq]
theorem Bsj (m : Nat) (h : m < 2147483648) : Xj (Int32.ofInt (m : Int)) (Int32.ofInt (-1)) = Int32.ofInt (-(m : Int) - 1) := by
 apply Int32.toBitVec_inj.1
 have e1 : (Int32.ofInt (-1)).toBitVec = BitVec.allOnes 32 := by decide
 rw [Bbd, e1, BitVec.xor_allOnes, Int32.toBitVec_ofInt, Int32.toBitVec_ofInt]
 apply BitVec.eq_of_toNat_eq
 rw [BitVec.toNat_not, BitVec.toNat_ofInt, BitVec.toNat_ofInt]
 omega
theorem Bma (n : UInt32) : Wf n = some (Alq n) := by
 have hn := n.toNat_lt
 have e1 : (Ad (Cr n (GI.toZ (1 : UInt64)).toNat) : Int32) = Int32.ofInt ((n.toNat / 2 : Nat) : Int) := by
  show Int32.ofInt ((Cr n 1).toNat : Int) = _
  rw [Ajf]
 have e2 : (Ad (Ik n (1 : UInt32)) : Int32) = Int32.ofInt ((n.toNat % 2 : Nat) : Int) := by
  show Int32.ofInt ((Ik n (1 : UInt32)).toNat : Int) = _
  rw [Bbh, UInt32.toNat_and]
  show Int32.ofInt ((n.toNat &&& 1 : Nat) : Int) = _
  rw [Nat.and_one_is_mod]
 rw [Wf, e1, e2, Alq]
 congr 1
 by_cases h : n.toNat % 2 = 0
 ·have e3 : Ap2 (Int32.ofInt ((n.toNat % 2 : Nat) : Int)) = Int32.ofInt 0 := by rw [h]; decide
  rw [if_pos h, e3]
  apply Int32.toBitVec_inj.1
  rw [Bbd, show (Int32.ofInt 0).toBitVec = 0#32 from rfl, BitVec.xor_zero]
 ·have e3 : Ap2 (Int32.ofInt ((n.toNat % 2 : Nat) : Int)) = Int32.ofInt (-1) := by rw [show n.toNat % 2 = 1 by omega]; decide
  rw [if_neg h, e3, Bsj _ (by omega)]
theorem Bps (n : UInt32) : Ji n = some (Alq n) := by
 have hn := n.toNat_lt
 have e1 : geq (Zr n (2 : UInt32)) (0 : UInt32) = decide (n.toNat % 2 = 0) := by
  rw [Azy, Bdb, Bool.eq_iff_iff]
  simp only [beq_iff_eq, ← UInt32.toNat_inj, UInt32.toNat_mod, decide_eq_true_eq]; rfl
 rw [Ji, e1, Alq]
 by_cases h : n.toNat % 2 = 0
 ·rw [if_pos (by simpa using h), if_pos h, Bc9]; rfl
 ·have e2 : (Ad n : Int) = (n.toNat : Int) := Be7 n
  rw [if_neg (by simpa using h), if_neg h, e2, Ag (by omega) (by omega), Bem, By (by omega) (by omega), Aer, Int.tdiv_eq_ediv, Afw]
  congr 2
  rw [if_pos (.inr (by omega)), By (by omega) (by omega)]; omega
end Go.Pl
set_option linter.unusedVariables false
set_option linter.unusedSimpArgs false
namespace Go.Pl
open Go Go.Lv
theorem Bdm {c : Prop} [Decidable c] (h : c) : Ut (decide c) = some () := by rw [decide_eq_true h]; rfl
def unV (f : Nat → Int32) (ch : Nat) : Nat → Int32
 | 0 => if 1 < ch then f (ch - 1) + Cw (f (ch - 2)) (2 : Int32) else f (ch - 1)
 | j + 1 => unV f ch j - f (ch - 2 - j)
def unm (ch : Nat) (m : List Int32) : List Int32 := (List.range m.length).map fun k => unV (fun i => m.getD (k - k % ch + i) 0) ch (ch - 1 - k % ch)
theorem Anv (ch : Nat) (m : List Int32) : (unm ch m).length = m.length := by simp [unm]
theorem Atp {ch : Nat} {m : List Int32} {a i : Nat} (ha : a % ch = 0) (hi : i < ch) (h : a + i < m.length) : (unm ch m).getD (a + i) 0 = unV (fun i => m.getD (a + i) 0) ch (ch - 1 - i) := by
 have hb : (a + i) % ch = i := by rw [Nat.add_mod, ha, Nat.zero_add, Nat.mod_mod, Nat.mod_eq_of_lt hi]
 rw [Ly (by rw [Anv]; exact h)]
 simp only [unm, List.getElem_map, List.getElem_range, hb]
 rw [show a + i - i = a by omega]
section
variable (ch : Nat) (m : List Int32)
theorem Blb (h1 : 1 ≤ ch) (h6 : ch ≤ 6) (hm : m.length % ch = 0) (hl2 : m.length ≤ 4000) : An8 (ch : Int) m = some 0 := by
 rw [An8, if_neg (by simp [Ae, Bb]; omega), if_neg (by rw [Bb, Ac]; simp; omega), Cu (by rw [Au]; simp; omega), Aa, if_neg]
 rw [Au, Kf, Ac, ← Int.ofNat_tmod, hm]; simp
theorem Aui (bk : Int → List Int32 → Option (List Int32 × Int)) (at' : Nat) (h1 : 1 ≤ ch) (h6 : ch ≤ 6) (hm : at' % ch = 0) (hl : at' + ch ≤ m.length) (hl2 : m.length ≤ 4000) : ∀ (i q : Nat), i ≤ ch - 1 → i < q →
  Wd bk (ch : Int) (at' : Int) q ((i : Int) - 1) (sel (fun k => decide (k < at' ∨ (at' + i ≤ k ∧ k < at' + ch))) (unm ch m) m) = bk ((at' + ch : Nat) : Int) (sel (fun k => decide (k < at' + ch)) (unm ch m) m)
 | 0, q + 1, hi, _ => by
  have e4 : Af (at' : Int) (ch : Int) = ((at' + ch : Nat) : Int) := by rw [Ag (by omega) (by omega)]; omega
  rw [Wd, Afr, if_neg (by rw [Dt]; simp), Akl, Aql, e4]
  congr 1
  apply Zk
  intro k _
  rw [Bool.eq_iff_iff]; simp; omega
 | i + 1, q + 1, hi, hq => by
  have hlen := Anv ch m
  have e2 : Af (at' : Int) (ch : Int) - (at' : Int) = (ch : Int) := by rw [Ag (by omega) (by omega)]; omega
  have e3 : Af (i : Int) 1 = ((i + 1 : Nat) : Int) := by rw [Ag (by omega) (by omega)]; omega
  have hv : ((unm ch m).getD (at' + (i + 1)) 0 - m.getD (at' + i) 0) = (unm ch m).getD (at' + i) 0 := by
   rw [Atp hm (by omega) (by omega), Atp hm (by omega) (by omega), show ch - 1 - i = (ch - 1 - (i + 1)) + 1 by omega, unV, show ch - 2 - (ch - 1 - (i + 1)) = i by omega]
  rw [Wd, Afr, show ((i + 1 : Nat) : Int) - 1 = (i : Int) by omega, if_pos (by rw [Dt]; simp), e2, e3, Bdm (by omega), Aa, Bdm (by omega), Aa,
   show (at' : Int) + ((i + 1 : Nat) : Int) = ((at' + (i + 1) : Nat) : Int) by omega, show (at' : Int) + (i : Int) = ((at' + i : Nat) : Int) by omega,
   Ah6 (by omega), Aa, Ah6 (by omega), Aa, Aa, if_pos (by simp; omega), if_neg (by simp; omega), Awi, hv, Aqx (by omega), Aa, Ce (by omega) (by omega)]
  have ih := Aui bk at' h1 h6 hm hl hl2 i q (by omega) (by omega)
  rw [← ih]
  congr 1
  apply Zk
  intro k _
  rw [Bool.eq_iff_iff]; simp; omega
theorem Bdi {at' ch n : Nat} (ha : at' % ch = 0) (hm : n % ch = 0) (h : at' < n) : at' + ch ≤ n := by
 have d1 := Nat.div_add_mod at' ch
 have d2 := Nat.div_add_mod n ch
 rw [ha, Nat.add_zero] at d1
 rw [hm, Nat.add_zero] at d2
 have hlt : at' / ch < n / ch := by
  rcases Nat.lt_or_ge (at' / ch) (n / ch) with h' | h'
  ·exact h'
  ·have := Nat.mul_le_mul_left ch h'; omega
 have := Nat.mul_le_mul_left ch (show at' / ch + 1 ≤ n / ch from hlt)
 rw [Nat.mul_add] at this; omega
theorem Ax2 (h1 : 1 ≤ ch) (h6 : ch ≤ 6) (hm : m.length % ch = 0) (hl2 : m.length ≤ 4000) : ∀ (j at' q : Nat), at' % ch = 0 → at' ≤ m.length → m.length - at' ≤ j → j < q →
  Re (ch : Int) q (at' : Int) (sel (fun k => decide (k < at')) (unm ch m) m) = some (unm ch m, 0)
 | j, at', q + 1, ha, hle, hj, hq => by
  have hlen := Anv ch m
  have hl : Ac (sel (fun k => decide (k < at')) (unm ch m) m) = (m.length : Int) := by rw [Ac, Aj9, hlen]
  rw [Re, Akd, hl]
  by_cases h : at' < m.length
  ·have hb := Bdi ha hm h
   obtain ⟨j, rfl⟩ : ∃ k, j = k + 1 := ⟨j - 1, by omega⟩
   have e1 : Ao (Af (at' : Int) (ch : Int) - (at' : Int)) 1 = ((ch - 1 : Nat) : Int) := by rw [Ag (by omega) (by omega), Ce (by omega) (by omega)]; omega
   have e2 : Af (at' : Int) (ch : Int) - (at' : Int) = (ch : Int) := by rw [Ag (by omega) (by omega)]; omega
   have e4 : Af (at' : Int) (ch : Int) = ((at' + ch : Nat) : Int) := by rw [Ag (by omega) (by omega)]; omega
   have hi := Aui ch m (Re (ch : Int) q) at' h1 h6 ha hb hl2 (ch - 1) Bc (by omega) (by have := Ay; omega)
   have hrest := Ax2 h1 h6 hm hl2 j (at' + ch) q (by rw [Nat.add_mod_right, ha]) hb (by omega) (by omega)
   have hstart : Afo (Re (ch : Int) q) (ch : Int) (at' : Int) (sel (fun k => decide (k < at' ∨ (at' + (ch - 1) ≤ k ∧ k < at' + ch))) (unm ch m) m) = some (unm ch m, 0) := by
    have e6 : Ao ((ch - 1 : Nat) : Int) 1 = ((ch - 1 : Nat) : Int) - 1 := Ce (by omega) (by omega)
    rw [Afo, Aj8, Akx, e1, e6]
    exact Eq.trans hi hrest
   rw [if_pos (by rw [Ae]; simp; omega), show vwI (m.length : Int) (at' : Int) (Af (at' : Int) (ch : Int)) = some () by rw [e4, vwI, Bdm]; omega, Aa, e1, e2]
   have hlast := Atp (m := m) ha (show ch - 1 < ch by omega) (by omega)
   rw [show ch - 1 - (ch - 1) = 0 by omega, unV] at hlast
   by_cases hc : 1 < ch
   ·have e5 : Ao ((ch - 1 : Nat) : Int) 1 = ((ch - 2 : Nat) : Int) := by rw [Ce (by omega) (by omega)]; omega
    rw [if_pos hc] at hlast
    rw [if_pos (by rw [Bb]; simp; omega), Bdm (by omega), Aa, e5, Bdm (by omega), Aa, show (at' : Int) + ((ch - 1 : Nat) : Int) = ((at' + (ch - 1) : Nat) : Int) by omega, show (at' : Int) + ((ch - 2 : Nat) : Int) = ((at' + (ch - 2) : Nat) : Int) by omega,
     Ah6 (by omega), Aa, Ah6 (by omega), Aa, Aa, if_neg (by simp), if_neg (by simp), Ajd, ← hlast, Aqx (by omega), Aa]
    rw [← hstart]
    congr 1
    apply Zk
    intro k _
    rw [Bool.eq_iff_iff]; simp; omega
   ·have hc1 : ch = 1 := by omega
    rw [if_neg (by rw [Bb]; simp; omega), ← hstart]
    congr 1
    rw [if_neg hc] at hlast
    apply List.map_congr_left
    intro k hk
    by_cases hk2 : k = at'
    ·subst hk2
     rw [if_neg (by simp), if_pos (by simp; omega)]
     rw [show k + (ch - 1) = k by omega] at hlast
     exact hlast.symm
    ·by_cases hk3 : k < at'
     ·rw [if_pos (by simp; omega), if_pos (by simp; omega)]
     ·rw [if_neg (by simp; omega), if_neg (by simp; omega)]
  ·rw [if_neg (by rw [Ae]; simp; omega), Aqb (fun k hk => by simp; omega)]
   rfl
theorem Bok (h1 : 1 ≤ ch) (h6 : ch ≤ 6) (hm : m.length % ch = 0) (hl2 : m.length ≤ 4000) : Ap6 (ch : Int) m = some (unm ch m, 0) := by
 have hlen := Anv ch m
 have h := Ax2 ch m h1 h6 hm hl2 m.length 0 Bc (by simp) (by omega) (by omega) (by have := Ay; omega)
 rw [Ap6, Ama, Blb ch m h1 h6 hm hl2, Aa, if_neg (by rw [Au]; simp), Fx, Fc (by simp; omega), Aa, Aa, List.nil_append, Ake]
 rw [Aqj hlen.symm (fun k _ => by simp)] at h
 exact h
end
def Arz (f : Nat → Int32) (ch : Nat) : List Int32 := (List.range ch).map fun i => unV f ch (ch - 1 - i)
theorem Ajp (f : Nat → Int32) (ch : Nat) : (Arz f ch).length = ch := by simp [Arz]
theorem Apy (f : Nat → Int32) {ch i : Nat} (h : i < ch) : (Arz f ch).getD i 0 = unV f ch (ch - 1 - i) := by
 rw [Ly (by rw [Ajp]; exact h)]; simp [Arz]
theorem Bks (a b : Int32) : Bq (Ao (Ad a : Int) (Ad b : Int)) = some (a - b) := by
 have := Aa0 a
 have := Aa0 b
 rw [El, El, Ce (by omega) (by omega), Atg, Int32.ofInt_sub, Int32.ofInt_toInt, Int32.ofInt_toInt]
theorem Bi0 (a b : Int32) : Bq (Af (Ad a : Int) (Cw (Ad b : Int) (2 : Int))) = some (a + Cw b (2 : Int32)) := by
 have := Aa0 a
 have hb := Aa0 b
 have hd : -2147483648 ≤ b.toInt.tdiv 2 ∧ b.toInt.tdiv 2 ≤ 2147483648 := by
  rw [Int.tdiv_eq_ediv, show Int.sign 2 = 1 from rfl]
  by_cases h : 0 ≤ b.toInt ∨ 2 ∣ b.toInt
  ·rw [if_pos h]; omega
  ·rw [if_neg h]; omega
 have e : Cw b (2 : Int32) = Int32.ofInt (b.toInt.tdiv 2) := rfl
 rw [El, El, Aer, By (by omega) (by omega), Ag (by omega) (by omega), Atg, Int32.ofInt_add, Int32.ofInt_toInt, e]
theorem Aqf (seg z : List Int32) (ch : Nat) (h6 : ch ≤ 6) (hs : seg.length = ch) (hz : z.length = ch) : ∀ (i q : Nat), i + 1 ≤ ch → i < q →
  Ej seg q ((i : Int) - 1) (sel (fun k => decide (i ≤ k)) (Arz (fun i => seg.getD i 0) ch) z) = some (Arz (fun i => seg.getD i 0) ch)
 | 0, q + 1, hi, _ => by
  rw [Ej, Jl, if_neg (by rw [Dt]; simp), Aqb (fun k hk => by simp)]; rfl
 | i + 1, q + 1, hi, hq => by
  have hlen := Ajp (fun i => seg.getD i 0) ch
  have e3 : Af (i : Int) 1 = ((i + 1 : Nat) : Int) := by rw [Ag (by omega) (by omega)]; omega
  have hv : (Arz (fun i => seg.getD i 0) ch).getD (i + 1) 0 - seg.getD i 0 = (Arz (fun i => seg.getD i 0) ch).getD i 0 := by
   rw [Apy _ (by omega), Apy _ (by omega), show ch - 1 - i = (ch - 1 - (i + 1)) + 1 by omega, unV, show ch - 2 - (ch - 1 - (i + 1)) = i by omega]
  rw [Ej, Jl, show ((i + 1 : Nat) : Int) - 1 = (i : Int) by omega, if_pos (by rw [Dt]; simp), e3, Ah6 (by omega), Aa, g32 (by omega), Aa, Aa, if_pos (by simp), Bks, Aa, Ah6 (by omega), Aa, hv, Aqx (by omega), Aa, Ce (by omega) (by omega)]
  have ih := Aqf seg z ch h6 hs hz i q (by omega) (by omega)
  rw [← ih]
  congr 1
  apply Zk
  intro k _
  rw [Bool.eq_iff_iff]; simp; omega
theorem Bc8 {l : List Int32} {i : Nat} (v : Int32) (h : i < l.length) : (l.set i v).getD i 0 = v := by
 rw [Ly (by rw [List.length_set]; exact h)]; simp
theorem Beo (seg : List Int32) (ch : Nat) (h1 : 1 ≤ ch) (h6 : ch ≤ 6) (hs : seg.length = ch) : Mw seg = some (Arz (fun i => seg.getD i 0) ch) := by
 have hlen := Ajp (fun i => seg.getD i 0) ch
 have hzl : (List.replicate ch (0 : Int32)).length = ch := by simp
 have e1 : Ao (Ac seg) 1 = ((ch - 1 : Nat) : Int) := by rw [Ac, hs, Ce (by omega) (by omega)]; omega
 have e2 : Ao (Ac seg) 2 = ((ch - 1 : Nat) : Int) - 1 := by rw [Ac, hs, Ce (by omega) (by omega)]; omega
 have hlast := Apy (fun i => seg.getD i 0) (show ch - 1 < ch by omega)
 rw [show ch - 1 - (ch - 1) = 0 by omega, unV] at hlast
 have hend : ∀ z : List Int32, z.length = ch → z.getD (ch - 1) 0 = (Arz (fun i => seg.getD i 0) ch).getD (ch - 1) 0 → Jf seg z = some (Arz (fun i => seg.getD i 0) ch) := by
  intro z hz hzl
  have h := Aqf seg z ch h6 hs hz (ch - 1) Bc (by omega) (by have := Ay; omega)
  have e : sel (fun k => decide (ch - 1 ≤ k)) (Arz (fun i => seg.getD i 0) ch) z = z := by
   apply List.ext_getElem (by rw [Aj9, hlen, hz])
   intro k k1 k2
   rw [Zq]
   by_cases hk : ch - 1 ≤ k
   ·obtain rfl : k = ch - 1 := by omega
    rw [if_pos (by simp), ← hzl, Ly k2]
   ·rw [if_neg (by simpa using hk), Ly k2]
  rw [e] at h
  rw [Jf, Qj, e2]
  exact h
 rw [Mw, Pp, Ac, hs, Awn (by omega) (by omega), Aa, Cu (by rw [Be]; simp), Aa]
 rw [Ac, hs] at e1
 rw [Ac, hs] at e2
 have hz1 : (List.replicate (Int.toNat (ch : Int)) (0 : Int32)).length = ch := by simp
 have hs1 := g32 (l := seg) (k := ch - 1) (by omega)
 rw [e1, hs1, Aa, g32 (by omega), Aa, Wu _ (by omega), Aa]
 by_cases hc : 1 < ch
 ·rw [if_pos hc] at hlast
  have e3 : ((ch - 1 : Nat) : Int) - 1 = ((ch - 2 : Nat) : Int) := by omega
  have hs2 := g32 (l := seg) (k := ch - 2) (by omega)
  rw [if_pos (by rw [Bb]; simp; omega), Aa, e2, e3, hs2, Aa, Bi0, Aa, g32 (by rw [List.length_set]; omega), Aa, Wu _ (by rw [List.length_set]; omega), Aa]
  refine hend _ (by simp) ?_
  rw [hlast, Bc8 _ (by rw [List.length_set]; omega)]
 ·rw [if_neg hc] at hlast
  rw [if_neg (by rw [Bb]; simp; omega)]
  refine hend _ (by simp) ?_
  rw [hlast, Bc8 _ (by omega)]
theorem Bo4 (ch : Nat) (m : List Int32) (h1 : 1 ≤ ch) (h6 : ch ≤ 6) (hm : m.length % ch = 0) (hl2 : m.length ≤ 4000) : Kx (ch : Int) m = some 0 := by
 rw [Kx, if_neg (by simp [Ae, Bb]; omega), if_neg (by rw [Bb, Ac]; simp; omega), Cu (by rw [Au]; simp; omega), Aa, if_neg]
 rw [Bb, Kf, Ac, ← Int.ofNat_tmod, hm]; simp
theorem Asn (ch : Nat) (m : List Int32) (h1 : 1 ≤ ch) (h6 : ch ≤ 6) (hm : m.length % ch = 0) (hl2 : m.length ≤ 4000) : ∀ (j at' q : Nat), at' % ch = 0 → at' ≤ m.length → m.length - at' ≤ j → j < q →
  Ja (ch : Int) m q (at' : Int) ((unm ch m).take at') = some (unm ch m, 0)
 | j, at', q + 1, ha, hle, hj, hq => by
  have hlen := Anv ch m
  rw [Ja, Uy]
  by_cases h : at' < m.length
  ·have hb := Bdi ha hm h
   have e4 : Af (at' : Int) (ch : Int) = ((at' + ch : Nat) : Int) := by rw [Ag (by omega) (by omega)]; omega
   have hrest := Asn ch m h1 h6 hm hl2 (j - 1) (at' + ch) q (by rw [Nat.add_mod_right, ha]) hb (by omega) (by omega)
   have hseg : ((m.take (at' + ch)).drop at').length = ch := by simp; omega
   have htl : ((unm ch m).take at').length = at' := by simp [hlen]; omega
   rw [if_pos (by rw [Ae, Ac]; simp; omega), e4, Ak7 (by omega) (by omega) (by omega), Aa, show ((at' + ch : Nat) : Int).toNat = at' + ch from rfl, show (at' : Int).toNat = at' from rfl, Beo _ ch h1 h6 hseg, Aa, Fc (by rw [htl, Ajp]; omega), Aa]
   have e : (unm ch m).take at' ++ Arz (fun i => ((m.take (at' + ch)).drop at').getD i 0) ch = (unm ch m).take (at' + ch) := by
    apply List.ext_getElem (by rw [List.length_append, htl, Ajp, List.length_take, hlen]; omega)
    intro k k1 k2
    rw [List.length_take, hlen] at k2
    rw [List.getElem_append, List.getElem_take]
    by_cases hk : k < at'
    ·rw [dif_pos (by rw [htl]; exact hk), List.getElem_take]
    ·rw [dif_neg (by rw [htl]; exact hk)]
     have hu := Atp (m := m) ha (show k - at' < ch by omega) (by omega)
     rw [show at' + (k - at') = k by omega, Ly (by omega)] at hu
     have hx : ∀ n, n ≤ ch → unV (fun i => ((m.take (at' + ch)).drop at').getD i 0) ch n = unV (fun i => m.getD (at' + i) 0) ch n := by
      have hf : ∀ i, i < ch → ((m.take (at' + ch)).drop at').getD i 0 = m.getD (at' + i) 0 := by
       intro i hi
       rw [Ly (by omega), Ly (by omega)]; simp
      intro n
      induction n with
      | zero =>
       intro _; rw [unV, unV, hf _ (by omega)]; split
       ·rw [hf _ (by omega)]
       ·rfl
      | succ n ih => intro hn; rw [unV, unV, ih (by omega), hf _ (by omega)]
     have hy := Apy (fun i => ((m.take (at' + ch)).drop at').getD i 0) (show k - at' < ch by omega)
     rw [Ly (by rw [Ajp]; omega)] at hy
     rw [hu, ← hx _ (by omega), ← hy]
     congr 1
     rw [htl]
   rw [e]
   exact hrest
  ·rw [if_neg (by rw [Ae, Ac]; simp; omega), List.take_of_length_le (by omega)]; rfl
theorem Biz (ch : Nat) (m : List Int32) (h1 : 1 ≤ ch) (h6 : ch ≤ 6) (hm : m.length % ch = 0) (hl2 : m.length ≤ 4000) : Ui (ch : Int) m = some (unm ch m, 0) := by
 have h := Asn ch m h1 h6 hm hl2 m.length 0 Bc (by simp) (by omega) (by omega) (by have := Ay; omega)
 rw [Ui, Vu, Bo4 ch m h1 h6 hm hl2, Aa, if_neg (by rw [Au]; simp)]
 exact h
end Go.Pl
set_option linter.unusedVariables false
set_option linter.unusedSimpArgs false
namespace Go.Pl
open Go Go.Lv
def pre {α : Type} (ch c : Nat) (f : α → Nat → α) (a0 : α) : Nat → α
 | 0 => a0
 | m + 1 => if m % ch = c then f (pre ch c f a0 m) m else pre ch c f a0 m
theorem Bhf {α : Type} (ch c : Nat) (f : α → Nat → α) (a0 : α) : ∀ m, m ≤ c → c < ch → pre ch c f a0 m = a0
 | 0, _, _ => rfl
 | m + 1, h, h2 => by rw [pre, if_neg (by rw [Nat.mod_eq_of_lt (by omega)]; omega), Bhf ch c f a0 m (by omega) h2]
theorem Bco {α : Type} (ch c i : Nat) (f : α → Nat → α) (a0 : α) (hi : i % ch = c) (hc : c < ch) : ∀ j, j < ch → pre ch c f a0 (i + 1 + j) = pre ch c f a0 (i + 1)
 | 0, _ => rfl
 | j + 1, h => by
  have hne : (i + 1 + j) % ch ≠ c := by
   intro e
   have h1 : (i + (1 + j)) % ch = i % ch := by rw [hi, ← e]; congr 1; omega
   have h2 : (1 + j) % ch = 0 := by
    have h3 := Nat.sub_mod_eq_zero_of_mod_eq h1
    rwa [Nat.add_sub_cancel_left] at h3
   rw [Nat.mod_eq_of_lt (by omega)] at h2; omega
  rw [show i + 1 + (j + 1) = (i + 1 + j) + 1 by omega, pre, if_neg hne, Bco ch c i f a0 hi hc j (by omega)]
theorem Bl0 {α : Type} (ch c i : Nat) (f : α → Nat → α) (a0 : α) (hi : i % ch = c) (hc : c < ch) : pre ch c f a0 (i + ch) = f (pre ch c f a0 i) i := by
 have h := Bco ch c i f a0 hi hc (ch - 1) (by omega)
 rw [show i + 1 + (ch - 1) = i + ch by omega] at h
 rw [h, pre, if_pos hi]
abbrev CS := Int32 × List Int32 × List Int32
def Blj (bits : Int) (s : CS) (y : Int32) : Int32 := y + gF (sB bits) s.2.1 s.2.2 + gs (shB bits) s.1
def Bgz (bits : Int) (s : CS) (y : Int32) : CS := (Blj bits s y, lrn s.2.1 s.2.2 y, (y + gF (sB bits) s.2.1 s.2.2) :: s.2.2.take 15)
def cst (bits : Int) (ch : Nat) (t : List Int32) (v : List UInt32) (c : Nat) : Nat → CS := pre ch c (fun s i => Bgz bits s (Alq (v.getD i 0))) (0, t, List.replicate 16 0)
def OkC (bits : Int) (s : CS) : Prop := OkF (sB bits) s.2.1 s.2.2
theorem Be8 (bits : Int) (ch : Nat) {t : List Int32} (ht : t.length = 16) (v : List UInt32) (c : Nat) : ∀ m, OkC bits (cst bits ch t v c m)
 | 0 => ⟨Bs6 bits, ht, by simp [cst, pre]⟩
 | m + 1 => by
  have ih := Be8 bits ch ht v c m
  rw [cst, pre]
  split
  ·exact Bmz ih _ _
  ·exact ih
def smp (bits : Int) (ch : Nat) (t : List Int32) (v : List UInt32) : List Int32 := (List.range v.length).map fun i => Blj bits (cst bits ch t v (i % ch) i) (Alq (v.getD i 0))
theorem An9 (bits : Int) (ch : Nat) (t : List Int32) (v : List UInt32) : (smp bits ch t v).length = v.length := by simp [smp]
theorem Bfz (bits : Int) (ch : Nat) (t : List Int32) (v : List UInt32) {i : Nat} (h : i < v.length) : (smp bits ch t v).getD i 0 = Blj bits (cst bits ch t v (i % ch) i) (Alq (v.getD i 0)) := by
 rw [Ly (by rw [An9]; exact h)]; simp [smp]
abbrev CL := Int × Int32 × (Int × (List Int32) × (List Int32) × Unit) × Unit
def toC (bits : Int) (s : CS) : CL := (bits, s.1, (sB bits, s.2.1, s.2.2, ()), ())
def cts (bits : Int) (ch : Nat) (t : List Int32) (v : List UInt32) (i : Nat) : List CL := (List.range 6).map fun c => toC bits (cst bits ch t v c i)
theorem Bn7 {bits : Int} {ch : Nat} {t : List Int32} {v : List UInt32} {i c : Nat} (h : c < 6) : Aj (cts bits ch t v i) (c : Int) = some (toC bits (cst bits ch t v c i)) := by
 rw [Dk (by simp [cts]; exact h)]; simp [cts]
theorem Bdj (bits : Int) (ch : Nat) (t : List Int32) (v : List UInt32) (c m : Nat) : cst bits ch t v c (m + 1) = if m % ch = c then Bgz bits (cst bits ch t v c m) (Alq (v.getD m 0)) else cst bits ch t v c m := rfl
theorem Bov {bits : Int} {ch : Nat} {t : List Int32} {v : List UInt32} {i c : Nat} (h : c < 6) (hc : i % ch = c) : Qk (cts bits ch t v i) (c : Int) (toC bits (Bgz bits (cst bits ch t v c i) (Alq (v.getD i 0)))) = some (cts bits ch t v (i + 1)) := by
 rw [Wu _ (by simp [cts]; exact h)]
 congr 1
 apply List.ext_getElem (by simp [cts])
 intro k h1 h2
 rw [List.getElem_set]
 simp only [cts, List.getElem_map, List.getElem_range]
 by_cases hk : c = k
 ·subst hk; rw [if_pos rfl, Bdj, if_pos hc]
 ·rw [if_neg hk, Bdj, if_neg (by omega)]
section
variable {bits : Int} {ch : Nat} {t : List Int32} {v : List UInt32}
theorem Bck (hb : Du bits) (ht : t.length = 16) (h1 : 1 ≤ ch) (h6 : ch ≤ 6) (hv : v.length ≤ 4000) : ∀ (j i q : Nat), i + j = v.length → j < q →
  Hn v (ch : Int) bits q (i : Int) (cts bits ch t v i) ((smp bits ch t v).take i) = Jy (ch : Int) bits (smp bits ch t v)
 | 0, i, q + 1, hi, _ => by
  rw [Hn, Ka, if_neg (by rw [Ae, Ac]; simp; omega), List.take_of_length_le (by rw [An9]; omega)]
 | j + 1, i, q + 1, hi, hq => by
  have hlen := An9 bits ch t v
  have hc : i % ch < 6 := Nat.lt_of_lt_of_le (Nat.mod_lt _ (by omega)) h6
  have hok := Be8 bits ch ht v (i % ch) i
  have hs := Bov (bits := bits) (ch := ch) (t := t) (v := v) (i := i) hc rfl
  have hx := Bfz bits ch t v (i := i) (by omega)
  have hcb := Bhs hb hok (cst bits ch t v (i % ch) i).1 (Alq (v.getD i 0))
  have ih := Bck hb ht h1 h6 hv j (i + 1) q (by omega) (by omega)
  rw [Ajt (by omega), ← Ly (by omega), hx] at ih
  rw [Hn, Ka, if_pos (by rw [Ae, Ac]; simp; omega), Avm (by omega), Aa, Cu (by rw [Au]; simp; omega), Aa, Au9, Bn7 hc, Aa, Aa, Bma, Aa]
  refine Eq.trans (congrArg (fun o => Option.bind o _) hcb) ?_
  rw [Aa]
  simp only
  rw [Xg, Ae7, if_neg (by rw [Au]; simp), Au9]
  refine Eq.trans (congrArg (fun o => Option.bind o _) hs) ?_
  rw [Aa, Fc (by simp; omega), Aa, Ag (by omega) (by omega)]
  exact ih
theorem Bh5 (hb : Du bits) (ht : t.length = 16) (h1 : 1 ≤ ch) (h6 : ch ≤ 6) (hv : v.length ≤ 4000) : Rz (ch : Int) bits t v = Jy (ch : Int) bits (smp bits ch t v) := by
 have h := Bck hb ht h1 h6 hv v.length 0 Bc (by omega) (by have := Ay; omega)
 have e : Bc = (Bc - 7) + 1 + 1 + 1 + 1 + 1 + 1 + 1 := by have := Ay; omega
 have hs : Oq v (ch : Int) bits t 0 (List.replicate 6 ((0 : Int), (0 : Int32), ((0 : Int), (List.replicate 16 (0 : Int32)), (List.replicate 16 (0 : Int32)), ()), ())) = Xc v (ch : Int) bits (cts bits ch t v 0) := by
  rw [Oq, e]
  obtain rfl | rfl | rfl := hb <;> rfl
 rw [Rz, Ym, hs]
 exact h
theorem Ax9 (bk : Int → List Int32 → Option (List Int32)) (hb : Du bits) (ht : t.length = 16) (h1 : 1 ≤ ch) (h6 : ch ≤ 6) (hv : v.length ≤ 4000) (z : List Int32) (c : Nat) (hc : c < ch) : ∀ (j i q : Nat), i % ch = c → v.length - i ≤ j → i ≤ 5000 → j < q →
  Gm bk v (ch : Int) bits t (c : Int) q (i : Int) (sel (fun k => decide (k % ch < c ∨ (k % ch = c ∧ k < i))) (smp bits ch t v) z) bits (cst bits ch t v c i).1 (sB bits) (cst bits ch t v c i).2.1 (cst bits ch t v c i).2.2 =
   bk ((c + 1 : Nat) : Int) (sel (fun k => decide (k % ch < c + 1)) (smp bits ch t v) z)
 | j, i, q + 1, hi, hj, hi5, hq => by
  have hlen := An9 bits ch t v
  rw [Gm, Jh]
  by_cases h : i < v.length
  ·have hok := Be8 bits ch ht v c i
   have hst := Bi7 hb hok (cst bits ch t v c i).1 (Alq (v.getD i 0))
   have hx := Bfz bits ch t v (i := i) h
   rw [hi] at hx
   have ih := Ax9 bk hb ht h1 h6 hv z c hc (j - 1) (i + ch) q (by rw [Nat.add_mod_right]; exact hi) (by omega) (by omega) (by omega)
   have hstep : cst bits ch t v c (i + ch) = Bgz bits (cst bits ch t v c i) (Alq (v.getD i 0)) := Bl0 ch c i _ _ hi hc
   rw [hstep] at ih
   have hset := Aqx (p := fun k => decide (k % ch < c ∨ (k % ch = c ∧ k < i))) (a := smp bits ch t v) (b := z) (k := i) (by omega)
   rw [hx] at hset
   have hcong : sel (fun j => decide (j % ch < c ∨ (j % ch = c ∧ j < i)) || decide (j = i)) (smp bits ch t v) z = sel (fun k => decide (k % ch < c ∨ (k % ch = c ∧ k < i + ch))) (smp bits ch t v) z := by
    apply Zk
    intro k _
    rw [Bool.eq_iff_iff]
    simp only [Bool.or_eq_true, decide_eq_true_eq]
    constructor
    ·rintro ((h1 | h1) | h1)
     ·exact .inl h1
     ·exact .inr ⟨h1.1, by omega⟩
     ·subst h1; exact .inr ⟨hi, by omega⟩
    ·rintro (h1 | ⟨h1, h2⟩)
     ·exact .inl (.inl h1)
     ·by_cases h3 : k < i
      ·exact .inl (.inr ⟨h1, h3⟩)
      ·refine .inr ?_
       have h4 : (i + (k - i)) % ch = i % ch := by rw [show i + (k - i) = k by omega, h1, hi]
       have h5 := Nat.sub_mod_eq_zero_of_mod_eq h4
       rw [Nat.add_sub_cancel_left, Nat.mod_eq_of_lt (by omega)] at h5
       omega
   rw [hcong] at hset
   rw [if_pos (by rw [Ae, Ac]; simp; omega), Avm h, Aa, Bps, Aa]
   refine Eq.trans (congrArg (fun o => Option.bind o _) hst) ?_
   rw [Aa]
   simp only
   rw [Qg, Qe, Ah6 (by omega), Aa]
   refine Eq.trans (congrArg (fun o => Option.bind o _) hset) ?_
   rw [Aa, Qc, Zf, Ag (by omega) (by omega)]
   exact ih
  ·rw [if_neg (by rw [Ae, Ac]; simp; omega), Qa, Zc, Ag (by omega) (by omega)]
   have hcong : sel (fun k => decide (k % ch < c ∨ (k % ch = c ∧ k < i))) (smp bits ch t v) z = sel (fun k => decide (k % ch < c + 1)) (smp bits ch t v) z := by
    apply Zk
    intro k hk
    rw [Bool.eq_iff_iff]
    simp only [decide_eq_true_eq]
    omega
   rw [hcong]; rfl
theorem Aye (hb : Du bits) (ht : t.length = 16) (h1 : 1 ≤ ch) (h6 : ch ≤ 6) (hv : v.length ≤ 4000) (z : List Int32) : ∀ (j c q : Nat), c + j = ch → j < q →
  Dh v (ch : Int) bits t q (c : Int) (sel (fun k => decide (k % ch < c)) (smp bits ch t v) z) = Jn (ch : Int) bits (smp bits ch t v)
 | 0, c, q + 1, hc, _ => by
  rw [Dh, Jd, if_neg (by rw [Ae]; simp; omega), Aqb (fun k hk => by have := Nat.mod_lt k (show 0 < ch by omega); simp; omega)]
 | j + 1, c, q + 1, hc, hq => by
  have ih := Aye hb ht h1 h6 hv z j (c + 1) q (by omega) (by omega)
  have hin := Ax9 (Dh v (ch : Int) bits t q) hb ht h1 h6 hv z c (by omega) v.length c Bc (Nat.mod_eq_of_lt (by omega)) (by omega) (by omega) (by have := Ay; omega)
  have h0 : cst bits ch t v c c = (0, t, List.replicate 16 0) := Bhf ch c _ _ c (Nat.le_refl _) (by omega)
  rw [h0] at hin
  have hcong : sel (fun k => decide (k % ch < c ∨ (k % ch = c ∧ k < c))) (smp bits ch t v) z = sel (fun k => decide (k % ch < c)) (smp bits ch t v) z := by
   apply Zk
   intro k hk
   have := Nat.mod_le k ch
   rw [Bool.eq_iff_iff]
   simp only [decide_eq_true_eq]
   omega
  rw [hcong] at hin
  rw [Dh, Jd, if_pos (by rw [Ae]; simp; omega), Bsu hb, Aa]
  simp only
  rw [Pv]
  exact Eq.trans hin ih
theorem Bh2 (hb : Du bits) (ht : t.length = 16) (h1 : 1 ≤ ch) (h6 : ch ≤ 6) (hv : v.length ≤ 4000) (hm : v.length % ch = 0) : Hk (ch : Int) bits t v = some (unm ch (smp bits ch t v)) := by
 have hlen := An9 bits ch t v
 have h := Aye hb ht h1 h6 hv (List.replicate v.length 0) ch 0 Bc (by omega) (by have := Ay; omega)
 rw [Aqj (by rw [hlen]; simp) (fun k _ => by simp)] at h
 rw [Hk, Rg, Ac, Awn (by omega) (by omega), Aa, Cu (by rw [Be]; simp), Aa, Pm]
 refine Eq.trans h ?_
 rw [Jn, Zl, Biz ch _ h1 h6 (by rw [hlen]; exact hm) (by omega), Aa]
end
def hB (bits : Int) : Int := if bits = 8 then 128 else if bits = 16 then 32768 else 8388608
theorem Bke {bits : Int} (h : Du bits) : Adn bits = some (Int32.ofInt (-(hB bits)), Int32.ofInt (hB bits - 1), 0) := by
 obtain rfl | rfl | rfl := h <;> decide
theorem At0 {bits : Int} (h : Du bits) : Jk bits = some (hB bits) := by
 obtain rfl | rfl | rfl := h <;> rfl
theorem Arx (bits : Int) : 0 < hB bits ∧ hB bits ≤ 8388608 := by
 unfold hB; split; · omega
 ·split <;> omega
theorem Avn {bits : Int} (h : Du bits) (l : List Int32) (hl : l.length ≤ 4000) : ∀ (j i q : Nat), i + j = l.length → j < q →
  Po (Int32.ofInt (-(hB bits))) (Int32.ofInt (hB bits - 1)) l q (i : Int) = Bh l (hB bits) q (i : Int)
 | 0, i, q + 1, hi, _ => by
  rw [Po, Aac, Bh, Df, if_neg (by rw [Ae, Ac]; simp; omega), if_neg (by rw [Ae, Ac]; simp; omega)]; rfl
 | j + 1, i, q + 1, hi, hq => by
  have hh := Arx bits
  have ih := Avn h l hl j (i + 1) q (by omega) (by omega)
  have e1 : (Int32.ofInt (-(hB bits))).toInt = -(hB bits) := by rw [Int32.toInt_ofInt, Int.bmod_eq_of_le (by show -(4294967296 / 2 : Int) ≤ _; omega) (by show _ < (4294967296 + 1) / 2; omega)]
  have e2 : (Int32.ofInt (hB bits - 1)).toInt = hB bits - 1 := by rw [Int32.toInt_ofInt, Int.bmod_eq_of_le (by show -(4294967296 / 2 : Int) ≤ _; omega) (by show _ < (4294967296 + 1) / 2; omega)]
  rw [Po, Aac, Bh, Df, if_pos (by rw [Ae, Ac]; simp; omega), if_pos (by rw [Ae, Ac]; simp; omega), g32 (by omega), Aa, Aa, Aa, El, Bem, By (by omega) (by omega), Ag (by omega) (by omega), Azt, Bei, e1, e2, Ae, Dt]
  generalize (l.getD i 0).toInt = X
  by_cases h1 : X < -(hB bits)
  ·rw [if_pos (by simp; omega), if_pos (by simp; omega)]
  ·rw [if_neg (c := decide (X < 0 - hB bits) = true) (by simp; omega)]
   by_cases h2 : hB bits ≤ X
   ·rw [if_pos (by simp; omega), if_pos (by simp; omega)]
   ·rw [if_neg (by simp; omega), if_neg (by simp; omega)]; exact ih
theorem Au0 {bits : Int} (h : Du bits) (l : List Int32) (hl : l.length ≤ 4000) : Adb bits l = Bi bits l := by
 have hh := Arx bits
 rw [Adb, Age, Bke h, Aa, Bi, Fi, At0 h, Aa]
 simp only
 rw [if_neg (by rw [Au]; simp), if_neg (by rw [Bb, Ac]; simp; omega), if_neg (by rw [Be]; simp; omega), if_neg (by rw [Bb, Ac]; simp; omega)]
 exact Avn h l hl l.length 0 Bc (by omega) (by have := Ay; omega)
theorem Bet {bits : Int} (h : Du bits) (l : List Int32) (hl : l.length ≤ 4000) : ∃ e, Bi bits l = some e := by
 have hh := Arx bits
 have key : ∀ (j i q : Nat), i + j = l.length → j < q → ∃ e, Bh l (hB bits) q (i : Int) = some e := by
  intro j
  induction j with
  | zero =>
   intro i q hi hq
   obtain ⟨q, rfl⟩ : ∃ k, q = k + 1 := ⟨q - 1, by omega⟩
   rw [Bh, Df, if_neg (by rw [Ae, Ac]; simp; omega)]
   exact ⟨_, rfl⟩
  | succ j ih =>
   intro i q hi hq
   obtain ⟨q, rfl⟩ : ∃ k, q = k + 1 := ⟨q - 1, by omega⟩
   rw [Bh, Df, if_pos (by rw [Ae, Ac]; simp; omega), g32 (by omega), Aa, Aa, Ag (by omega) (by omega)]
   split
   ·exact ⟨_, rfl⟩
   ·split
    ·exact ⟨_, rfl⟩
    ·exact ih (i + 1) q (by omega) (by omega)
 obtain ⟨e, he⟩ := key l.length 0 Bc (by omega) (by have := Ay; omega)
 rw [Bi, Fi, At0 h, Aa, if_neg (by rw [Be]; simp; omega), if_neg (by rw [Bb, Ac]; simp; omega)]
 exact ⟨e, he⟩
theorem Aq1 {bits : Int} {ch : Nat} {t : List Int32} {v : List UInt32} (hb : Du bits) (ht : t.length = 16) (h1 : 1 ≤ ch) (h6 : ch ≤ 6) (hv : v.length ≤ 4000) (hm : v.length % ch = 0) :
  ∃ l e, Hk (ch : Int) bits t v = some l ∧ Jz (ch : Int) bits l = some (if e ≠ 0 then ([], e) else (l, 0)) ∧ Rz (ch : Int) bits t v = some (if e ≠ 0 then ([], e) else (l, 0)) ∧ Bi bits l = some e ∧ l.length = v.length := by
 have hlen := An9 bits ch t v
 have hul := Anv ch (smp bits ch t v)
 obtain ⟨e, he⟩ := Bet hb (unm ch (smp bits ch t v)) (by omega)
 refine ⟨unm ch (smp bits ch t v), e, Bh2 hb ht h1 h6 hv hm, ?_, ?_, he, by omega⟩
 ·rw [Jz, he, Aa]
  by_cases h : e = 0
  ·rw [if_neg (by rw [Au]; simpa using h), if_neg (by simpa using h)]
  ·rw [if_pos (by rw [Au]; simpa using h), if_pos h]
 ·rw [Bh5 hb ht h1 h6 hv, Jy, Afe, Bok ch _ h1 h6 (by rw [hlen]; exact hm) (by omega), Aa]
  simp only
  rw [if_neg (by rw [Au]; simp), Au0 hb _ (by omega), he, Aa]
  by_cases h : e = 0
  ·rw [if_neg (by rw [Au]; simpa using h), if_neg (by simpa using h)]
  ·rw [if_pos (by rw [Au]; simpa using h), if_pos h]
end Go.Pl
set_option linter.unusedVariables false
set_option linter.unusedSimpArgs false
namespace Go.Pl
open Go Go.Lv
def Ang (s : Nat) : Nat := (s / 2) ^^^ (if s % 2 = 1 then 3988292384 else 0)
theorem Avi {s : Nat} (h : s < 4294967296) : Ang s < 4294967296 := by
 unfold Ang
 exact Nat.xor_lt_two_pow (n := 32) (by simp; omega) (by split <;> decide)
theorem Bda (x y : Nat) : (x ^^^ y) / 2 = (x / 2) ^^^ (y / 2) := by
 have := Nat.shiftRight_xor_distrib (a := x) (b := y) (i := 1)
 simpa [Nat.shiftRight_eq_div_pow] using this
theorem Bju (x y : Nat) : Ang (x ^^^ y) = Ang x ^^^ Ang y := by
 have h : (x ^^^ y) % 2 = (x % 2 + y % 2) % 2 := by
  have := Nat.xor_mod_two_eq_one (a := x) (b := y)
  have h1 : (x ^^^ y) % 2 < 2 := Nat.mod_lt _ (by omega)
  omega
 simp only [Ang, Bda, h]
 have hx : x % 2 = 0 ∨ x % 2 = 1 := by omega
 have hy : y % 2 = 0 ∨ y % 2 = 1 := by omega
 rcases hx with hx | hx <;> rcases hy with hy | hy <;> simp only [hx, hy] <;> simp
 ·rw [Nat.xor_assoc]
 ·rw [Nat.xor_assoc, Nat.xor_comm (y / 2), Nat.xor_assoc, Nat.xor_comm 3988292384 (y/2)]
 ·rw [Nat.xor_assoc, Nat.xor_comm 3988292384, Nat.xor_assoc, Nat.xor_self]; simp
def Ws : Nat → Nat → Nat
 | 0, s => s
 | k + 1, s => Ws k (Ang s)
theorem Ayc : ∀ (k x y : Nat), Ws k (x ^^^ y) = Ws k x ^^^ Ws k y
 | 0, _, _ => rfl
 | k + 1, x, y => by rw [Ws, Bju, Ayc k]; rfl
theorem Axl : ∀ (k h : Nat), Ws k (2 ^ k * h) = h
 | 0, h => by simp [Ws]
 | k + 1, h => by
  have : Ang (2 ^ (k + 1) * h) = 2 ^ k * h := by
   rw [Nat.pow_succ, Nat.mul_comm (2 ^ k) 2, Nat.mul_assoc, Ang, if_neg (by omega), Nat.mul_div_cancel_left _ (by omega)]; simp
  rw [Ws, this, Axl k]
theorem Aug : ∀ (k : Nat) {s : Nat}, s < 4294967296 → Ws k s < 4294967296
 | 0, _, h => h
 | k + 1, _, h => Aug k (Avi h)
def Ase (s c : Nat) : Nat := Ws 8 (s ^^^ c)
theorem Au7 {s c : Nat} (h : s < 4294967296) (hc : c < 256) : Ase s c < 4294967296 := Aug 8 (Nat.xor_lt_two_pow (n := 32) (by simpa using h) (by simp; omega))
theorem Bbw {s c : Nat} (hc : c < 256) : Ase s c = (s / 256) ^^^ Ws 8 ((s % 256) ^^^ c) := by
 have h : s = (2 ^ 8 * (s / 256)) ^^^ (s % 256) := by
  have h1 : s % 256 < 2 ^ 8 := by simpa using Nat.mod_lt s (by omega : 256 > 0)
  have := Nat.two_pow_add_eq_or_of_lt h1 (s / 256)
  have h2 : 2 ^ 8 * (s / 256) ||| s % 256 = (2 ^ 8 * (s / 256)) ^^^ (s % 256) := by
   apply Nat.eq_of_testBit_eq; intro i
   rw [Nat.testBit_or, Nat.testBit_xor]
   by_cases hi : i < 8
   ·have : (2 ^ 8 * (s / 256)).testBit i = false := by rw [Nat.testBit_two_pow_mul]; simp; omega
    rw [this]; simp
   ·have : (s % 256).testBit i = false := Nat.testBit_lt_two_pow (Nat.lt_of_lt_of_le h1 (Nat.pow_le_pow_right (by omega) (by omega)))
    rw [this]; simp
  omega
 rw [Ase]
 conv => lhs; rw [h]
 rw [Nat.xor_assoc, Ayc, Axl]
def Bit (s : Nat) (l : List UInt8) : Nat := l.foldl (fun s c => Ase s c.toNat) s
def Hc (b : List UInt8) : UInt32 := 4294967295 - UInt32.ofNat (Bit 4294967295 b)
theorem Bo5 (s : UInt32) (c : Nat) (hc : c < 256) : Ur s (Ad (Zr (UInt8.ofNat c) (2 : UInt8)) : Int) = some (UInt32.ofNat (s.toNat / 2 ^^^ (if (s.toNat ^^^ c) % 2 = 1 then 3988292384 else 0))) := by
 have h1 : (Ad (Zr (UInt8.ofNat c) (2 : UInt8)) : Int) = ((c % 2 : Nat) : Int) := by
  rw [Afy, Bot, UInt8.toNat_mod, UInt8.toNat_ofNat']
  show ((c % 256 % 2 : Nat) : Int) = _
  omega
 have h2 : geq (Zr s (2 : UInt32)) (1 : UInt32) = decide (s.toNat % 2 = 1) := by
  rw [Azy, Bdb, Bool.eq_iff_iff]
  simp only [beq_iff_eq, decide_eq_true_eq]
  rw [← UInt32.toNat_inj, UInt32.toNat_mod]; rfl
 have h3 : Cw s (2 : UInt32) = UInt32.ofNat (s.toNat / 2) := by
  apply UInt32.toNat_inj.1
  rw [Bc9, UInt32.toNat_div, UInt32.toNat_ofNat']
  show s.toNat / 2 = _
  have := s.toNat_lt
  omega
 have h4 : Xj (Cw s (2 : UInt32)) (3988292384 : UInt32) = UInt32.ofNat (s.toNat / 2 ^^^ 3988292384) := by
  apply UInt32.toNat_inj.1
  rw [h3, Aqa, UInt32.toNat_xor, UInt32.toNat_ofNat', UInt32.toNat_ofNat']
  have := s.toNat_lt
  rw [Nat.mod_eq_of_lt (a := s.toNat / 2) (by omega), Nat.mod_eq_of_lt]
  ·rfl
  ·exact Nat.xor_lt_two_pow (n := 32) (by omega) (by decide)
 have hx : (s.toNat ^^^ c) % 2 = (s.toNat % 2 + c % 2) % 2 := by
  have := Nat.xor_mod_two_eq_one (a := s.toNat) (b := c)
  have h1 : (s.toNat ^^^ c) % 2 < 2 := Nat.mod_lt _ (by omega)
  omega
 have hs : s.toNat % 2 = 0 ∨ s.toNat % 2 = 1 := by omega
 have hc2 : c % 2 = 0 ∨ c % 2 = 1 := by omega
 rw [Ur, Vt, h1, h2, hx]
 rcases hs with hs | hs <;> rcases hc2 with hc2 | hc2 <;> simp [hs, hc2, Be, Vr, Ade, Aqa, h3]
theorem As2 : ∀ (j i q : Nat) (s : UInt32) (c : Nat), i + j = 8 → j < q → c < 2 ^ j → Gi q s (UInt8.ofNat c) (i : Int) = some (UInt32.ofNat (Ws j (s.toNat ^^^ c)))
 | 0, i, q + 1, s, c, hi, _, hc => by
  obtain rfl : i = 8 := by omega
  obtain rfl : c = 0 := by simpa using hc
  rw [Gi, Nc, if_neg (by rw [Ae]; simp), Vk, Adt, Ws]
  simp
 | j + 1, i, q + 1, s, c, hi, hq, hc => by
  have hc8 : c < 256 := Nat.lt_of_lt_of_le hc (show 2 ^ (j + 1) ≤ 2 ^ 8 from Nat.pow_le_pow_right (by omega) (by omega))
  rw [Gi, Nc, if_pos (by rw [Ae]; simp; omega), Bo5 s c hc8, Aa, Ag (by omega) (by omega)]
  have e : Cw (UInt8.ofNat c) (2 : UInt8) = UInt8.ofNat (c / 2) := by
   apply UInt8.toNat_inj.1
   rw [Bnq, UInt8.toNat_div, UInt8.toNat_ofNat', UInt8.toNat_ofNat']
   show c % 256 / 2 = _
   omega
  rw [e]
  have h := As2 j (i + 1) q (UInt32.ofNat (s.toNat / 2 ^^^ (if (s.toNat ^^^ c) % 2 = 1 then 3988292384 else 0))) (c / 2) (by omega) (by omega) (by rw [Nat.pow_succ] at hc; omega)
  rw [show ((i : Int) + 1) = ((i + 1 : Nat) : Int) by omega, h, UInt32.toNat_ofNat', Ws]
  congr 3
  have := s.toNat_lt
  rw [Nat.mod_eq_of_lt, Ang, Bda, Nat.xor_assoc, Nat.xor_assoc, Nat.xor_comm (c / 2)]
  exact Nat.xor_lt_two_pow (n := 32) (by omega) (by split <;> decide)
theorem Bpx (s : UInt32) (c : UInt8) : Aa9 s c = some (UInt32.ofNat (Ase s.toNat c.toNat)) := by
 have h := As2 8 0 Bc s c.toNat (by omega) (by have := Ay; omega) (by simpa using c.toNat_lt)
 rw [UInt8.ofNat_toNat] at h
 exact h
theorem Aol (b : List UInt8) (hb : b.length < 4611686018427387904) : ∀ (j i q : Nat) (s : UInt32), i + j = b.length → j < q → Ex b q s (i : Int) = some (UInt32.ofNat (Bit s.toNat (b.drop i)))
 | 0, i, q + 1, s, hi, _ => by
  rw [Ex, Kk, if_neg (by rw [Ae, Ac]; simp; omega), show i = b.length by omega, List.drop_length]
  simp [Ri, Aap, Bit]
 | j + 1, i, q + 1, s, hi, hq => by
  have hlt : i < b.length := by omega
  rw [Ex, Kk, if_pos (by rw [Ae, Ac]; simp; omega), Dk hlt, Aa, Bpx, Aa, Ag (by omega) (by omega)]
  have h := Aol b hb j (i + 1) q (UInt32.ofNat (Ase s.toNat b[i].toNat)) (by omega) (by omega)
  rw [show ((i : Int) + 1) = ((i + 1 : Nat) : Int) by omega, h, drop_cons hlt, UInt32.toNat_ofNat', Nat.mod_eq_of_lt (Au7 s.toNat_lt b[i].toNat_lt)]
  rfl
theorem Bkt (b : List UInt8) (hb : b.length < 4611686018427387904) : Mq b = some (Hc b) := by
 have h := Aol b hb b.length 0 Bc 4294967295 (by omega) (by have := Ay; omega)
 rw [Mq, Xf, Qo, Rn, show ((0 : Int)) = ((0 : Nat) : Int) from rfl, h, Aa, Bdc]; rfl
theorem Bn1 (c : UInt32) : Xj (Cr c (GI.toZ (1 : UInt64)).toNat) (Bo (3988292384 : UInt32) (Ik c (1 : UInt32))) = UInt32.ofNat (Ang c.toNat) := by
 apply UInt32.toNat_inj.1
 have e : (GI.toZ (1 : UInt64)).toNat = 1 := rfl
 have h1 : (Cr c 1).toNat = c.toNat / 2 := by rw [Ajf]
 have h2 : (Bo (3988292384 : UInt32) (Ik c (1 : UInt32))).toNat = if c.toNat % 2 = 1 then 3988292384 else 0 := by
  rw [Blg, Bbh, UInt32.toNat_mul, UInt32.toNat_and]
  show 3988292384 * (c.toNat &&& 1) % 4294967296 = _
  rw [Nat.and_one_is_mod]
  have : c.toNat % 2 = 0 ∨ c.toNat % 2 = 1 := by omega
  rcases this with h | h <;> simp [h]
 rw [e, Aqa, UInt32.toNat_xor, h1, h2, UInt32.toNat_ofNat', Nat.mod_eq_of_lt (Avi c.toNat_lt)]; rfl
theorem Bbo (bk16 : Int → List UInt32 → Option (UInt32 × Int)) (s : UInt32) (b : List UInt8) (x : Int) (t : List UInt32) : ∀ (j i q : Nat) (c : UInt32), i + j = 8 → j < q →
  Qb bk16 s b x t q c (i : Int) = Abb bk16 s b x (UInt32.ofNat (Ws j c.toNat)) t
 | 0, i, q + 1, c, hi, _ => by
  obtain rfl : i = 8 := by omega
  rw [Qb, Aai, if_neg (by rw [Ae]; simp), Ws, UInt32.ofNat_toNat]
 | j + 1, i, q + 1, c, hi, hq => by
  rw [Qb, Aai, if_pos (by rw [Ae]; simp; omega), Bn1, Ag (by omega) (by omega), show ((i : Int) + 1) = ((i + 1 : Nat) : Int) by omega, Bbo bk16 s b x t j (i + 1) q _ (by omega) (by omega), UInt32.toNat_ofNat', Nat.mod_eq_of_lt (Avi c.toNat_lt)]; rfl
def tbl (n : Nat) : List UInt32 := (List.range n).map fun i => UInt32.ofNat (Ws 8 i)
theorem Bge (s : UInt32) (b : List UInt8) : ∀ (j i q : Nat), i + j = 256 → j < q → Le s b q (i : Int) (tbl i ++ List.replicate j 0) = Abh s b (tbl 256)
 | 0, i, q + 1, hi, _ => by
  obtain rfl : i = 256 := by omega
  rw [Le, Aaj, if_neg (by rw [Ae]; simp)]; simp
 | j + 1, i, q + 1, hi, hq => by
  have hlen : (tbl i ++ List.replicate (j + 1) 0).length = i + (j + 1) := by simp [tbl]
  rw [Le, Aaj, if_pos (by rw [Ae]; simp; omega), Af7]
  have h := Bbo (Le s b q) s b (i : Int) (tbl i ++ List.replicate (j + 1) 0) 8 0 Bc (Ad (i : Int)) (by omega) (by have := Ay; omega)
  rw [show ((0 : Int)) = ((0 : Nat) : Int) from rfl, h, Abb, Agp, Dk (by rw [hlen]; omega), Aa, Wu _ (by rw [hlen]; omega), Aa, Agj, Am5, Ag (by omega) (by omega)]
  have e : (Ad (i : Int) : UInt32).toNat = i := by rw [Ax3, UInt32.toNat_ofNat', Nat.mod_eq_of_lt (by omega)]
  rw [e, List.replicate_succ, An3 (by simp [tbl])]
  have h2 := Bge s b j (i + 1) q (by omega) (by omega)
  have h3 : tbl (i + 1) = tbl i ++ [UInt32.ofNat (Ws 8 i)] := by simp [tbl, List.range_succ]
  rw [h3] at h2
  rw [show ((i : Int) + 1) = ((i + 1 : Nat) : Int) by omega, ← h2]
  simp
theorem Bnn {i : Nat} (h : i < 256) : Aj (tbl 256) (i : Int) = some (UInt32.ofNat (Ws 8 i)) := by
 rw [Dk (by simpa [tbl] using h)]; simp [tbl]
theorem Bm8 (s : UInt32) (c : UInt8) : Aj (tbl 256) (GI.toZ (Xj (Ad s : UInt8) c)) = some (UInt32.ofNat (Ws 8 ((s.toNat % 256) ^^^ c.toNat))) := by
 have e : GI.toZ (Xj (Ad s : UInt8) c) = (((s.toNat % 256) ^^^ c.toNat : Nat) : Int) := by
  rw [Ys, Bgp, UInt8.toNat_xor, Apl, UInt8.toNat_ofNat']
 rw [e, Bnn]
 exact Nat.xor_lt_two_pow (n := 8) (by simp; omega) (by simpa using c.toNat_lt)
theorem Bjn (s : UInt32) (c : UInt8) : Xj (Cr s (GI.toZ (8 : UInt64)).toNat) (UInt32.ofNat (Ws 8 ((s.toNat % 256) ^^^ c.toNat))) = UInt32.ofNat (Ase s.toNat c.toNat) := by
 apply UInt32.toNat_inj.1
 have hlt : Ws 8 ((s.toNat % 256) ^^^ c.toNat) < 4294967296 := Aug 8 (Nat.xor_lt_two_pow (n := 32) (by simp; omega) (by have := c.toNat_lt; simp; omega))
 have e : (GI.toZ (8 : UInt64)).toNat = 8 := rfl
 rw [e, Aqa, UInt32.toNat_xor, Ajf, UInt32.toNat_ofNat', UInt32.toNat_ofNat', Nat.mod_eq_of_lt hlt, Nat.mod_eq_of_lt (Au7 s.toNat_lt c.toNat_lt), Bbw c.toNat_lt]
theorem Bcl (b : List UInt8) (hb : b.length < 4611686018427387904) : ∀ (j i q : Nat) (s : UInt32), i + j = b.length → j < q → Pz b (tbl 256) q s (i : Int) = some (UInt32.ofNat (Bit s.toNat (b.drop i)), 0)
 | 0, i, q + 1, s, hi, _ => by
  rw [Pz, Aan, if_neg (by rw [Ae, Ac]; simp; omega), show i = b.length by omega, List.drop_length]
  simp [Ag0, Amo, Bit]
 | j + 1, i, q + 1, s, hi, hq => by
  have hlt : i < b.length := by omega
  rw [Pz, Aan, if_pos (by rw [Ae, Ac]; simp; omega), Dk hlt, Aa, Bm8, Aa, Aa, Bjn, Ag (by omega) (by omega)]
  have h := Bcl b hb j (i + 1) q (UInt32.ofNat (Ase s.toNat b[i].toNat)) (by omega) (by omega)
  rw [show ((i : Int) + 1) = ((i + 1 : Nat) : Int) by omega, h, drop_cons hlt, UInt32.toNat_ofNat', Nat.mod_eq_of_lt (Au7 s.toNat_lt b[i].toNat_lt)]
  rfl
theorem Bo9 (s : UInt32) (b : List UInt8) (hb : b.length ≤ 100000) : Ald s b = some (UInt32.ofNat (Bit s.toNat b), 0) := by
 have h := Bge s b 256 0 Bc (by omega) (by have := Ay; omega)
 have h2 := Bcl b (by omega) b.length 0 Bc s (by omega) (by have := Ay; omega)
 rw [Ald, Aic, if_neg (by rw [Bb, Ac]; simp; omega), Agn]
 refine Eq.trans h ?_
 rw [Abh, Aha, Agl, Ahb, Ag6]
 exact h2
theorem Bj4 (a : UInt32) : Avx a = 4294967295 - a := by
 have h := a.toNat_lt
 have e : Avx a = UInt32.ofNat (BitVec.ofInt 32 4294967295 ^^^ BitVec.ofInt 32 (a.toNat : Int)).toNat := Dy _
 apply UInt32.toNat_inj.1
 rw [e, UInt32.toNat_ofNat', UInt32.toNat_sub_of_le _ _ (by rw [UInt32.le_iff_toNat_le]; show a.toNat ≤ 4294967295; omega)]
 have h1 : BitVec.ofInt 32 (a.toNat : Int) = a.toBitVec := Azi a
 have h2 : (BitVec.ofInt 32 4294967295 : BitVec 32) = BitVec.allOnes 32 := by decide
 rw [h1, h2, BitVec.allOnes_xor, BitVec.toNat_not]
 show (4294967296 - 1 - a.toNat) % 4294967296 = 4294967295 - a.toNat
 omega
theorem Bd7 (b : List UInt8) (hb : b.length ≤ 100000) : Afz b = some (Hc b, 0) := by
 rw [Afz, Bo9 _ _ hb, Aa]
 simp only [Au, Bj4]
 rfl
end Go.Pl
set_option linter.unusedVariables false
set_option linter.unusedSimpArgs false
namespace Go.Pl
open Go Go.Lv
theorem Bg6 : ∀ {l m : List UInt8}, l.length = m.length → Eh l = Eh m → l = m
 | [], [], _, _ => rfl
 | x :: l, y :: m, h, e => by
  simp only [Eh] at e
  have hx := x.toNat_lt
  have hy := y.toNat_lt
  have h1 : x = y := UInt8.toNat_inj.1 (by omega)
  rw [h1, Bg6 (l := l) (m := m) (by simpa using h) (by omega)]
theorem Bal : ∀ (w n : Nat), Eh (leB n w) = n % 256 ^ w
 | 0, n => by simp [leB, Eh, Nat.mod_one]
 | w + 1, n => by
  rw [leB, Eh, Bal w (n / 256), UInt8.toNat_ofNat', show (256 : Nat) ^ (w + 1) = 256 * 256 ^ w by rw [Nat.pow_succ, Nat.mul_comm], Nat.mod_mul]
def Um (b : List UInt8) : Int :=
 if b.length < 5 then 24 else if 41254 < b.length then 4 else if (Hc (b.take (b.length - 4))).toNat ≠ Eh (b.drop (b.length - 4)) then 22 else 0
theorem Bdd (b : List UInt8) : Aak b = some (if Um b ≠ 0 then ([], Um b) else (b.take (b.length - 4), 0)) := by
 rw [Aak]
 by_cases h1 : b.length < 5
 ·have hS : Um b = 24 := by rw [Um, if_pos h1]
  rw [if_pos (by rw [Ae, Ac]; simp; omega), hS]; rfl
 rw [if_neg (by rw [Ae, Ac]; simp; omega)]
 by_cases h2 : 41254 < b.length
 ·have hS : Um b = 4 := by rw [Um, if_neg h1, if_pos h2]
  rw [if_pos (by rw [Bb, Ac]; simp; omega), hS]; rfl
 have e4 : Ao (Ac b) 4 = ((b.length - 4 : Nat) : Int) := by rw [Ac, Ce (by omega) (by omega)]; omega
 have hd : (b.drop (b.length - 4)).length = 4 := by simp; omega
 rw [if_neg (by rw [Bb, Ac]; simp; omega), e4, Gd (by omega) (by omega), Aa, show ((b.length - 4 : Nat) : Int).toNat = b.length - 4 from rfl, Bd7 _ (by simp; omega), Aa]
 simp only
 rw [if_neg (by rw [Au]; simp), Jm (by omega) (by omega), Aa, show ((b.length - 4 : Nat) : Int).toNat = b.length - 4 from rfl, Bb7 _ (by omega) (by omega), Aa]
 have hne : Cm (leU (b.drop (b.length - 4))) (Ad (Hc (b.take (b.length - 4))) : UInt64) = decide ((Hc (b.take (b.length - 4))).toNat ≠ Eh (b.drop (b.length - 4))) := by
  have hlt := (Hc (b.take (b.length - 4))).toNat_lt
  rw [Afp, Bool.eq_iff_iff]
  simp only [bne_iff_ne, ne_eq, ← UInt64.toNat_inj, decide_eq_true_eq]
  rw [Ahy (by omega), Hr, UInt64.toNat_ofNat', Nat.mod_eq_of_lt (by omega)]
  exact ⟨fun h e => h e.symm, fun h e => h e.symm⟩
 simp only
 rw [hne, Aa]
 by_cases h3 : (Hc (b.take (b.length - 4))).toNat ≠ Eh (b.drop (b.length - 4))
 ·have hS : Um b = 22 := by rw [Um, if_neg h1, if_neg h2, if_pos h3]
  rw [if_pos (by simp [h3]), hS]; rfl
 ·have hS : Um b = 0 := by rw [Um, if_neg h1, if_neg h2, if_neg h3]
  rw [if_neg (by rw [decide_eq_false h3]; decide), hS]; rfl
theorem Bjp (b : List UInt8) (hb : b.length ≤ 1000000) : Ph b = some (b ++ leB (Hc b).toNat 4) := by
 have h : ∀ k : Nat, (Ad (Cr (Hc b) k) : UInt8) = UInt8.ofNat ((Hc b).toNat / 2 ^ k) := by
  intro k; rw [Apl, Ajf]
 have h0 : (Ad (Hc b) : UInt8) = UInt8.ofNat (Hc b).toNat := Apl _
 have h1 := h 8
 have h2 := h 16
 have h3 := h 24
 rw [Ph, Bkt b (by omega), Aa, Fc (by simp; omega), Aa, Fc (by simp; omega), Aa, h0, show (GI.toZ (8 : UInt64)).toNat = 8 from rfl, show (GI.toZ (16 : UInt64)).toNat = 16 from rfl, show (GI.toZ (24 : UInt64)).toNat = 24 from rfl, h1, h2, h3]
 simp only [leB, Nat.div_div_eq_div_mul, List.nil_append]
theorem Awl (b : List UInt8) : Ju b = some (Um b) := by
 rw [Ju]
 by_cases h1 : b.length < 5
 ·rw [if_pos (by rw [Ae, Ac]; simp; omega), Um, if_pos h1]
 rw [if_neg (by rw [Ae, Ac]; simp; omega)]
 by_cases h2 : 41254 < b.length
 ·rw [if_pos (by rw [Bb, Ac]; simp; omega), Um, if_neg h1, if_pos h2]
 have e4 : Ao (Ac b) 4 = ((b.length - 4 : Nat) : Int) := by rw [Ac, Ce (by omega) (by omega)]; omega
 have hd : (b.drop (b.length - 4)).length = 4 := by simp; omega
 rw [if_neg (by rw [Bb, Ac]; simp; omega), e4, Gd (by omega) (by omega), Aa, show ((b.length - 4 : Nat) : Int).toNat = b.length - 4 from rfl, Bjp _ (by simp; omega), Aa]
 have hlt := (Hc (b.take (b.length - 4))).toNat_lt
 have hiff : (b.take (b.length - 4) ++ leB (Hc (b.take (b.length - 4))).toNat 4 != b) = decide ((Hc (b.take (b.length - 4))).toNat ≠ Eh (b.drop (b.length - 4))) := by
  rw [Bool.eq_iff_iff]
  simp only [bne_iff_ne, ne_eq, decide_eq_true_eq]
  constructor
  ·intro h e
   apply h
   have : leB (Hc (b.take (b.length - 4))).toNat 4 = b.drop (b.length - 4) := Bg6 (by rw [Pe, hd]) (by rw [Bal, Nat.mod_eq_of_lt (by omega), e])
   rw [this, List.take_append_drop]
  ·intro h e
   apply h
   have hx : leB (Hc (b.take (b.length - 4))).toNat 4 = b.drop (b.length - 4) := by
    have e2 : b.take (b.length - 4) ++ leB (Hc (b.take (b.length - 4))).toNat 4 = b.take (b.length - 4) ++ b.drop (b.length - 4) := by rw [e, List.take_append_drop]
    exact List.append_cancel_left e2
   rw [← hx, Bal, Nat.mod_eq_of_lt (by omega)]
 rw [hiff]
 by_cases h3 : (Hc (b.take (b.length - 4))).toNat ≠ Eh (b.drop (b.length - 4))
 ·rw [if_pos (by simp [h3]), Um, if_neg h1, if_neg h2, if_pos h3]
 ·rw [if_neg (by rw [decide_eq_false h3]; decide), Um, if_neg h1, if_neg h2, if_neg h3]
theorem Bc6 {b : List UInt8} (h : Um b = 0) : 5 ≤ b.length ∧ b.length ≤ 41254 := by
 unfold Um at h
 split at h
 ·simp at h
 ·split at h
  ·simp at h
  ·omega
theorem Bg9 {c : Nat} (h1 : 1 ≤ c) (h6 : c ≤ 6) : Cw (4000 : Int) (c : Int) = ((4000 / c : Nat) : Int) := by
 have : c = 1 ∨ c = 2 ∨ c = 3 ∨ c = 4 ∨ c = 5 ∨ c = 6 := by omega
 rcases this with rfl | rfl | rfl | rfl | rfl | rfl <;> rfl
theorem Bn4 (p : List UInt8) (h : p.length ≤ 41250) : okB p (8 * p.length) := ⟨by omega, by omega, fun k h1 h2 => by omega⟩
theorem Bdl {bits : Int} {ch n : Nat} {t : List Int32} (b : List UInt8) (hb : Du bits) (ht : t.length = 16) (h1 : 1 ≤ ch) (h6 : ch ≤ 6) (n1 : 1 ≤ n) (n2 : n ≤ 4000 / ch) :
  ∃ l e, Abk (ch : Int) bits t (n : Int) b = some (l, e) ∧ Hl (ch : Int) bits t (n : Int) b = some (l, e) ∧ (e = 0 → Bi bits l = some 0 ∧ l.length ≤ 4000 ∧ l.length = n * ch) ∧ (e ≠ 0 → l = []) := by
 have hn : n * ch ≤ 4000 := by
  have := Nat.mul_le_mul_right ch n2
  have h2 := Nat.div_mul_le_self 4000 ch
  omega
 have hq4 := Bg9 h1 h6
 generalize 4000 / ch = mm at *
 have hck : Ac6 (ch : Int) bits = some 0 := by
  have hr : ∃ x y, Adn bits = some (x, y, 0) := ⟨_, _, Bke hb⟩
  obtain ⟨x, y, hr⟩ := hr
  rw [Ac6, hr, Aa]
  simp only
  rw [if_neg (by simp [Au, Ae, Bb]; omega)]
 have hh := Arx bits
 have hasked : Io (ch : Int) bits (n : Int) = some 0 := by
  rw [Io, Rc, if_neg (by simp [Ae, Bb]; omega), At0 hb, Aa, if_neg (by rw [Be]; simp; omega), Aa, if_neg (by simp [Au, Ae]; omega), Cu (by rw [Au]; simp; omega), Aa, hq4, if_neg (by rw [Bb]; simp; omega)]
 rw [Abk, Hl, Kj, hck, hasked, Aa, Aa, if_neg (by rw [Au]; simp), if_neg (by rw [Ae]; simp; omega), Cu (by rw [Au]; simp; omega), Aa, hq4, if_neg (by rw [Bb]; simp; omega), if_neg (by rw [Au]; simp), Bdd, Awl]
 by_cases hs : Um b ≠ 0
 ·rw [if_pos hs]
  simp only [Aa]
  rw [if_pos (by rw [Au]; simpa using hs), if_pos (by rw [Au]; simpa using hs)]
  exact ⟨[], Um b, rfl, rfl, fun e => absurd e hs, fun _ => rfl⟩
 have hs0 : Um b = 0 := by simpa using hs
 have hlen := Bc6 hs0
 have e4 : Ao (Ac b) 4 = ((b.length - 4 : Nat) : Int) := by rw [Ac, Ce (by omega) (by omega)]; omega
 rw [if_neg hs, hs0]
 simp only [Aa]
 rw [if_neg (by rw [Au]; simp), if_neg (by rw [Au]; simp), e4, Gd (by omega) (by omega), Aa, show ((b.length - 4 : Nat) : Int).toNat = b.length - 4 from rfl]
 have hpl : (b.take (b.length - 4)).length = b.length - 4 := by simp
 generalize b.take (b.length - 4) = p at *
 have e8 : Bo (8 : Int) (Ac p) = ((8 * p.length : Nat) : Int) := by rw [Ac, Hs (by omega) (by omega)]; omega
 have hp := Bn4 p (by omega)
 have hv := values_eq hp h1 h6 hn
 have hr := Bf4 (N := 8 * p.length) (p := p) rfl (by omega) h1 h6 hn
 have hat := Atk (ch := ch) (p := p) (N := 8 * p.length) (n * ch) 0 [] (by omega)
 rw [Az3, if_neg (by rw [Bb, Ac]; simp; omega), Hg, Fc (by simp; omega), Aa, Aa, Aa, List.nil_append, e8]
 simp only
 rw [if_neg (by rw [Au]; simp), hv, hr, Aa, Aa]
 generalize Wj ch p (8 * p.length) (n * ch) 0 [] = V at *
 obtain ⟨v, at', e⟩ := V
 simp only at *
 by_cases he : e ≠ 0
 ·rw [if_pos he, if_pos he]
  simp only
  rw [if_pos (by rw [Au]; simpa using he), Ew, Ds, if_pos (by rw [Au]; simpa using he)]
  exact ⟨[], e, rfl, rfl, fun h => absurd h he, fun _ => rfl⟩
 have he0 : e = 0 := by simpa using he
 have hvl := hat.2.2 he0
 simp only [List.length_nil, Nat.zero_add] at hvl
 rw [if_neg he, if_neg he]
 simp only
 rw [if_neg (by rw [Au]; simp), Ce (by omega) (by omega), show ((8 * p.length : Nat) : Int) - (at' : Int) = ((8 * p.length - at' : Nat) : Int) by omega, Ew, Ds]
 by_cases h7 : 7 < 8 * p.length - at'
 ·have hE : (if 7 < 8 * p.length - at' ∨ Bw p at' (8 * p.length - at') ≠ 0 then (12 : Int) else 0) = 12 := if_pos (.inl h7)
  rw [if_pos (by rw [Dt]; simp; omega), hE, if_pos (by decide)]
  exact ⟨[], 12, rfl, rfl, fun h => absurd h (by decide), fun _ => rfl⟩
 rw [if_neg (by rw [Dt]; simp; omega), Arm hp at' _ (by omega), if_neg (by omega), Aa]
 have hz : Cm (Ve p at' (8 * p.length - at')) (0 : UInt64) = decide (Bw p at' (8 * p.length - at') ≠ 0) := by
  rw [Afp, Bool.eq_iff_iff]
  simp only [bne_iff_ne, ne_eq, ← UInt64.toNat_inj, decide_eq_true_eq]
  rw [Abe p _ _ (by omega)]; rfl
 simp only
 rw [hz]
 by_cases hv0 : Bw p at' (8 * p.length - at') ≠ 0
 ·have hE : (if 7 < 8 * p.length - at' ∨ Bw p at' (8 * p.length - at') ≠ 0 then (12 : Int) else 0) = 12 := if_pos (.inr hv0)
  rw [if_pos (by simp [hv0]), hE, if_pos (by decide)]
  exact ⟨[], 12, rfl, rfl, fun h => absurd h (by decide), fun _ => rfl⟩
 have hm : v.length % ch = 0 := by rw [hvl]; exact Nat.mul_mod_left n ch
 obtain ⟨l, e, g1, g2, g3, g4, g5⟩ := Aq1 (v := v) hb ht h1 h6 (by omega) hm
 have hE : (if 7 < 8 * p.length - at' ∨ Bw p at' (8 * p.length - at') ≠ 0 then (12 : Int) else 0) = 0 := if_neg (by omega)
 rw [if_neg (by rw [decide_eq_false hv0]; decide), hE, if_neg (by decide), g1, g3, Aa, Aa, g2]
 by_cases hl : e ≠ 0
 ·rw [if_pos hl]
  exact ⟨[], e, rfl, rfl, fun h => absurd h hl, fun _ => rfl⟩
 ·rw [if_neg hl]
  have hl0 : e = 0 := by simpa using hl
  exact ⟨l, 0, rfl, rfl, fun _ => ⟨by rw [g4, hl0], by omega, by omega⟩, fun e => absurd rfl e⟩
end Go.Pl
set_option linter.unusedVariables false
set_option linter.unusedSimpArgs false
namespace Go.Pl
open Go Go.Lv
def P64 : Nat := 4823603603198064275
def Aep (s : Nat) : Nat := (2 * s % 18446744073709551616) ^^^ (s / 9223372036854775808 * P64)
theorem Ajs {s : Nat} (h : s < 18446744073709551616) : Aep s < 18446744073709551616 := by
 have h1 : s / 9223372036854775808 = 0 ∨ s / 9223372036854775808 = 1 := by omega
 exact Nat.xor_lt_two_pow (n := 64) (Nat.mod_lt _ (by decide)) (by rcases h1 with e | e <;> rw [e] <;> decide)
theorem Bgr (x y : Nat) : (x ^^^ y) / 9223372036854775808 = (x / 9223372036854775808) ^^^ (y / 9223372036854775808) := by
 have := Nat.shiftRight_xor_distrib (a := x) (b := y) (i := 63)
 simpa [Nat.shiftRight_eq_div_pow] using this
theorem Bha (x y : Nat) : 2 * (x ^^^ y) % 18446744073709551616 = (2 * x % 18446744073709551616) ^^^ (2 * y % 18446744073709551616) := by
 have h1 := Nat.shiftLeft_xor_distrib (a := x) (b := y) (i := 1)
 have h2 := Nat.xor_mod_two_pow (a := 2 * x) (b := 2 * y) (n := 64)
 have e : 2 * (x ^^^ y) = (2 * x) ^^^ (2 * y) := by simpa [Nat.shiftLeft_eq, Nat.mul_comm] using h1
 rw [e]; exact h2
theorem Bpf {a b : Nat} (ha : a = 0 ∨ a = 1) (hb : b = 0 ∨ b = 1) (p : Nat) : (a ^^^ b) * p = (a * p) ^^^ (b * p) := by
 rcases ha with rfl | rfl <;> rcases hb with rfl | rfl <;> simp
theorem Btr (a b c d : Nat) : (a ^^^ b) ^^^ (c ^^^ d) = (a ^^^ c) ^^^ (b ^^^ d) := by
 rw [Nat.xor_assoc, Nat.xor_assoc, ← Nat.xor_assoc b c d, Nat.xor_comm b c, Nat.xor_assoc c b d]
theorem Bfc {x y : Nat} (hx : x < 18446744073709551616) (hy : y < 18446744073709551616) : Aep (x ^^^ y) = Aep x ^^^ Aep y := by
 rw [Aep, Aep, Aep, Bha, Bgr, Bpf (by omega) (by omega), Btr]
def Mh : Nat → Nat → Nat
 | 0, s => s
 | k + 1, s => Mh k (Aep s)
theorem Arl : ∀ (k : Nat) {s : Nat}, s < 18446744073709551616 → Mh k s < 18446744073709551616
 | 0, _, h => h
 | k + 1, _, h => Arl k (Ajs h)
theorem Avk : ∀ (k : Nat) {x y : Nat}, x < 18446744073709551616 → y < 18446744073709551616 → Mh k (x ^^^ y) = Mh k x ^^^ Mh k y
 | 0, _, _, _, _ => rfl
 | k + 1, x, y, hx, hy => by rw [Mh, Bfc hx hy, Avk k (Ajs hx) (Ajs hy)]; rfl
theorem Awt : ∀ (k h : Nat), 2 ^ k * h < 18446744073709551616 → Mh k h = 2 ^ k * h
 | 0, h, _ => by simp [Mh]
 | k + 1, h, hl => by
  have hpos : 0 < 2 ^ k := Nat.pow_pos (by omega)
  rw [Nat.pow_succ, Nat.mul_assoc] at hl
  have h2 : 2 * h < 18446744073709551616 := Nat.lt_of_le_of_lt (Nat.le_mul_of_pos_left _ hpos) hl
  have : Aep h = 2 * h := by rw [Aep, Nat.mod_eq_of_lt h2, show h / 9223372036854775808 = 0 by omega]; simp
  rw [Mh, this, Awt k _ hl, Nat.pow_succ, Nat.mul_assoc]
def Amw (s c : Nat) : Nat := Mh 8 (s ^^^ (c * 72057594037927936))
theorem c56 {c : Nat} (hc : c < 256) : c * 72057594037927936 < 18446744073709551616 := by omega
theorem Art {s c : Nat} (h : s < 18446744073709551616) (hc : c < 256) : Amw s c < 18446744073709551616 := Arl 8 (Nat.xor_lt_two_pow (n := 64) h (c56 hc))
theorem Bn8 (s : Nat) : s = (s / 72057594037927936 * 72057594037927936) ^^^ (s % 72057594037927936) := by
 have h1 : s % 72057594037927936 < 2 ^ 56 := Nat.mod_lt _ (by decide)
 have := Nat.two_pow_add_eq_or_of_lt h1 (s / 72057594037927936)
 have h2 : 2 ^ 56 * (s / 72057594037927936) ||| s % 72057594037927936 = (2 ^ 56 * (s / 72057594037927936)) ^^^ (s % 72057594037927936) := by
  apply Nat.eq_of_testBit_eq; intro i
  rw [Nat.testBit_or, Nat.testBit_xor]
  by_cases hi : i < 56
  ·have : (2 ^ 56 * (s / 72057594037927936)).testBit i = false := by rw [Nat.testBit_two_pow_mul]; simp; omega
   rw [this]; simp
  ·have : (s % 72057594037927936).testBit i = false := Nat.testBit_lt_two_pow (Nat.lt_of_lt_of_le h1 (Nat.pow_le_pow_right (by omega) (by omega)))
   rw [this]; simp
 rw [Nat.mul_comm (s / 72057594037927936)]
 show s = (2 ^ 56 * (s / 72057594037927936)) ^^^ _
 rw [← h2, ← this]
 have := Nat.div_add_mod s 72057594037927936
 show s = 72057594037927936 * _ + _
 omega
theorem Biu (a c : Nat) : (a ^^^ c) * 72057594037927936 = (a * 72057594037927936) ^^^ (c * 72057594037927936) := by
 have h1 := Nat.shiftLeft_xor_distrib (a := a) (b := c) (i := 56)
 simpa [Nat.shiftLeft_eq] using h1
theorem Azv {s c : Nat} (h : s < 18446744073709551616) (hc : c < 256) : Amw s c = (256 * s % 18446744073709551616) ^^^ Mh 8 (((s / 72057594037927936) ^^^ c) * 72057594037927936) := by
 have hs : s / 72057594037927936 < 2 ^ 8 := by show _ < 256; omega
 have hx : (s / 72057594037927936) ^^^ c < 256 := Nat.xor_lt_two_pow (n := 8) hs (by simpa using hc)
 have hl : s % 72057594037927936 < 72057594037927936 := Nat.mod_lt _ (by decide)
 rw [Amw]
 conv => lhs; rw [Bn8 s]
 rw [Nat.xor_comm (s / 72057594037927936 * 72057594037927936), Nat.xor_assoc, ← Biu, Avk 8 (by omega) (c56 hx), Awt 8 _ (by show 256 * _ < _; omega)]
 congr 1
 show 256 * (s % 72057594037927936) = _
 omega
def Ave (s : Nat) (l : List UInt8) : Nat := l.foldl (fun s c => Amw s c.toNat) s
theorem Axf {n : Nat} (h : n < 18446744073709551616) : (UInt64.ofNat n).toNat = n := by rw [UInt64.toNat_ofNat']; exact Nat.mod_eq_of_lt h
theorem Bqm (s : UInt64) (bit : Nat) (hb : bit = 0 ∨ bit = 1) : Ub s (bit : Int) = some (UInt64.ofNat ((2 * s.toNat % 18446744073709551616) ^^^ (((s.toNat / 9223372036854775808) ^^^ bit) * P64))) := by
 have hs := s.toNat_lt
 have ht : s.toNat / 9223372036854775808 = 0 ∨ s.toNat / 9223372036854775808 = 1 := by omega
 have e1 : (Bo s (2 : UInt64)).toNat = 2 * s.toNat % 18446744073709551616 := by
  rw [Adf, UInt64.toNat_mul]; show s.toNat * 2 % _ = _; rw [Nat.mul_comm]
 have hlt : 2 * s.toNat % 18446744073709551616 < 18446744073709551616 := Nat.mod_lt _ (by decide)
 have ey : Xj (Bo s (2 : UInt64)) (4823603603198064275 : UInt64) = UInt64.ofNat ((2 * s.toNat % 18446744073709551616) ^^^ P64) := by
  apply UInt64.toNat_inj.1
  rw [Avg, UInt64.toNat_xor, e1, Axf (Nat.xor_lt_two_pow (n := 64) hlt (by decide))]; rfl
 have en : Bo s (2 : UInt64) = UInt64.ofNat (2 * s.toNat % 18446744073709551616) := by
  apply UInt64.toNat_inj.1
  rw [e1, Axf hlt]
 have eg : Sd s (9223372036854775808 : UInt64) = decide (s.toNat / 9223372036854775808 = 1) := by
  rw [Bpd, decide_eq_decide]
  show 9223372036854775808 ≤ s.toNat ↔ _
  omega
 have hp : ∀ b : Bool, Nb s b = some (if b = true then UInt64.ofNat ((2 * s.toNat % 18446744073709551616) ^^^ P64) else UInt64.ofNat (2 * s.toNat % 18446744073709551616)) := by
  intro b
  rw [Nb, Adr, ey, en]; cases b <;> rfl
 rw [Ub, Vx, hp, hp, eg]
 rcases hb with rfl | rfl <;> rcases ht with h | h <;> rw [h] <;> simp [Be]
theorem Ass (c : UInt8) : ∀ (j q : Nat) (s : UInt64), j ≤ 8 → j < q → Gn c q s ((2 ^ j / 2 : Nat) : Int) = some (UInt64.ofNat (Mh j (s.toNat ^^^ (c.toNat % 2 ^ j * 2 ^ (64 - j)))))
 | 0, q + 1, s, _, _ => by
  rw [Gn, Nf, if_neg (by rw [Bb]; simp), Vl, Ad7]
  simp [Mh, Nat.mod_one]
 | j + 1, q + 1, s, hj, hq => by
  have hc := c.toNat_lt
  have hs := s.toNat_lt
  have hj2 : 2 ^ j ≤ 2 ^ 7 := Nat.pow_le_pow_right (by omega) (by omega)
  have hpos : 0 < 2 ^ j := Nat.pow_pos (by omega)
  have e1 : 2 ^ (j + 1) / 2 = 2 ^ j := by rw [Nat.pow_succ]; omega
  have e2 : Cw ((2 ^ j : Nat) : Int) 2 = ((2 ^ j / 2 : Nat) : Int) := by
   generalize 2 ^ j = K at *
   rw [Aer, Int.tdiv_eq_ediv_of_nonneg (by omega), By (by omega) (by omega)]; omega
  have e3 : Kf (Cw (Ad c : Int) ((2 ^ j : Nat) : Int)) (2 : Int) = ((c.toNat / 2 ^ j % 2 : Nat) : Int) := by
   have hX := Nat.div_le_self c.toNat (2 ^ j)
   rw [Afy, Aer, ← Int.ofNat_tdiv]
   generalize c.toNat / 2 ^ j = X at *
   rw [By (by omega) (by omega), Kf, Int.tmod_eq_emod_of_nonneg (by omega)]; omega
  have hbit : c.toNat / 2 ^ j % 2 = 0 ∨ c.toNat / 2 ^ j % 2 = 1 := by omega
  rw [Gn, Nf, e1, if_pos (by rw [Bb, decide_eq_true_eq]; omega), Cu (by rw [Au, bne_iff_ne]; omega), Aa, e3, Bqm s _ hbit, Aa, e2, Ass c j q _ (by omega) (by omega)]
  congr 2
  rw [Mh]
  congr 1
  have hx : c.toNat % 2 ^ (j + 1) * 2 ^ (64 - (j + 1)) = (c.toNat / 2 ^ j % 2) * 9223372036854775808 + c.toNat % 2 ^ j * 2 ^ (63 - j) := by
   have h63 : (9223372036854775808 : Nat) = 2 ^ j * 2 ^ (63 - j) := by rw [← Nat.pow_add, show j + (63 - j) = 63 by omega]
   rw [Nat.mod_pow_succ, h63, show 64 - (j + 1) = 63 - j by omega, Nat.add_mul, Nat.add_comm, Nat.mul_assoc, Nat.mul_left_comm]
  have hr : c.toNat % 2 ^ j < 2 ^ j := Nat.mod_lt _ hpos
  have hb63 : c.toNat % 2 ^ j * 2 ^ (63 - j) < 9223372036854775808 := by
   have h63 : (9223372036854775808 : Nat) = 2 ^ j * 2 ^ (63 - j) := by rw [← Nat.pow_add, show j + (63 - j) = 63 by omega]
   rw [h63]; exact Nat.mul_lt_mul_of_pos_right hr (Nat.pow_pos (by omega))
  have h64 : c.toNat % 2 ^ j * 2 ^ (64 - j) = 2 * (c.toNat % 2 ^ j * 2 ^ (63 - j)) := by
   rw [show 64 - j = (63 - j) + 1 by omega, Nat.pow_succ, ← Nat.mul_assoc, Nat.mul_comm]
  rw [hx, h64]
  generalize c.toNat % 2 ^ j * 2 ^ (63 - j) = R at *
  generalize c.toNat / 2 ^ j % 2 = b at *
  have ht : s.toNat / 9223372036854775808 = 0 ∨ s.toNat / 9223372036854775808 = 1 := by omega
  have hp : ((s.toNat / 9223372036854775808 ^^^ b) * P64) < 18446744073709551616 := by
   rcases ht with h | h <;> rcases hbit with h2 | h2 <;> rw [h, h2] <;> decide
  rw [Axf (Nat.xor_lt_two_pow (n := 64) (Nat.mod_lt _ (by decide)) hp), Aep, Bha, Bgr, show (b * 9223372036854775808 + R) / 9223372036854775808 = b by omega, show 2 * (b * 9223372036854775808 + R) % 18446744073709551616 = 2 * R by omega, Nat.xor_assoc, Nat.xor_assoc, Nat.xor_comm (2 * R)]
theorem Bqo (c : UInt8) (s : UInt64) : Aba s c = some (UInt64.ofNat (Amw s.toNat c.toNat)) := by
 have h := Ass c 8 Bc s (Nat.le_refl _) (by have := Ay; omega)
 have hc := c.toNat_lt
 rw [Nat.mod_eq_of_lt (show c.toNat < 2 ^ 8 by simpa using hc)] at h
 exact h
theorem Aoh (b : List UInt8) (hb : b.length < 4611686018427387904) : ∀ (j i q : Nat) (s : UInt64), i + j = b.length → j < q → Ev b q s (i : Int) = some (UInt64.ofNat (Ave s.toNat (b.drop i)))
 | 0, i, q + 1, s, hi, _ => by
  rw [Ev, Kl, if_neg (by rw [Ae, Ac]; simp; omega), show i = b.length by omega, List.drop_length]
  simp [Rt, Aa6, Ave]
 | j + 1, i, q + 1, s, hi, hq => by
  have hlt : i < b.length := by omega
  have hc := b[i].toNat_lt
  rw [Ev, Kl, if_pos (by rw [Ae, Ac]; simp; omega), Dk hlt, Aa, Bqo, Aa, Ag (by omega) (by omega)]
  have h := Aoh b hb j (i + 1) q (UInt64.ofNat (Amw s.toNat b[i].toNat)) (by omega) (by omega)
  rw [show ((i : Int) + 1) = ((i + 1 : Nat) : Int) by omega, h, drop_cons hlt, Axf (Art s.toNat_lt (by simpa using hc))]
  rfl
def Adh (b : List UInt8) : UInt64 := UInt64.ofNat (Ave 0 b)
theorem Bcb (b : List UInt8) (hb : b.length ≤ 100000) : Oo 0 b = some (Adh b) :=
 Aoh b (by omega) b.length 0 Bc 0 (by omega) (by have := Ay; omega)
theorem Bd3 (c : UInt64) : Xj (Ff c (GI.toZ (1 : UInt64)).toNat) (Bo (4823603603198064275 : UInt64) (Cr c (GI.toZ (63 : UInt64)).toNat)) = UInt64.ofNat (Aep c.toNat) := by
 have hc := c.toNat_lt
 apply UInt64.toNat_inj.1
 have h1 : (Ff c (GI.toZ (1 : UInt64)).toNat).toNat = 2 * c.toNat % 18446744073709551616 := by
  rw [show (GI.toZ (1 : UInt64)).toNat = 1 from rfl, Ajl, Nat.mul_comm]
 have h2 : (Bo (4823603603198064275 : UInt64) (Cr c (GI.toZ (63 : UInt64)).toNat)).toNat = c.toNat / 9223372036854775808 * P64 := by
  rw [show (GI.toZ (63 : UInt64)).toNat = 63 from rfl, Adf, UInt64.toNat_mul, Ad4]
  show 4823603603198064275 * (c.toNat / 9223372036854775808) % 18446744073709551616 = _
  have h1 : c.toNat / 9223372036854775808 = 0 ∨ c.toNat / 9223372036854775808 = 1 := by omega
  rcases h1 with e | e <;> rw [e] <;> decide
 rw [Avg, UInt64.toNat_xor, h1, h2, Axf (Ajs hc)]; rfl
theorem Ar8 (bk16 : Int → List UInt64 → Option (UInt64 × Int)) (s : UInt64) (b : List UInt8) (x : Int) (t : List UInt64) : ∀ (j i q : Nat) (c : UInt64), i + j = 8 → j < q →
  Ps bk16 s b x t q c (i : Int) = Aaf bk16 s b x (UInt64.ofNat (Mh j c.toNat)) t
 | 0, i, q + 1, c, hi, _ => by
  obtain rfl : i = 8 := by omega
  rw [Ps, Zu, if_neg (by rw [Ae]; simp), Mh, UInt64.ofNat_toNat]
 | j + 1, i, q + 1, c, hi, hq => by
  rw [Ps, Zu, if_pos (by rw [Ae]; simp; omega), Bd3, Ag (by omega) (by omega), show ((i : Int) + 1) = ((i + 1 : Nat) : Int) by omega, Ar8 bk16 s b x t j (i + 1) q _ (by omega) (by omega), Axf (Ajs c.toNat_lt)]; rfl
def Ah8 (n : Nat) : List UInt64 := (List.range n).map fun i => UInt64.ofNat (Mh 8 (i * 72057594037927936))
theorem Aw1 (s : UInt64) (b : List UInt8) : ∀ (j i q : Nat), i + j = 256 → j < q → La s b q (i : Int) (Ah8 i ++ List.replicate j 0) = Aae s b (Ah8 256)
 | 0, i, q + 1, hi, _ => by
  obtain rfl : i = 256 := by omega
  rw [La, Aax, if_neg (by rw [Ae]; simp)]; simp
 | j + 1, i, q + 1, hi, hq => by
  have hlen : (Ah8 i ++ List.replicate (j + 1) 0).length = i + (j + 1) := by simp [Ah8]
  rw [La, Aax, if_pos (by rw [Ae]; simp; omega), Ags]
  have h := Ar8 (La s b q) s b (i : Int) (Ah8 i ++ List.replicate (j + 1) 0) 8 0 Bc (Ff (Ad (i : Int) : UInt64) (GI.toZ (56 : UInt64)).toNat) (by omega) (by have := Ay; omega)
  rw [show ((0 : Int)) = ((0 : Nat) : Int) from rfl, h, Aaf, Ago, Dk (by rw [hlen]; omega), Aa, Wu _ (by rw [hlen]; omega), Aa, Agt, Anl, Ag (by omega) (by omega)]
  have e : (Ff (Ad (i : Int) : UInt64) (GI.toZ (56 : UInt64)).toNat).toNat = i * 72057594037927936 := by
   rw [Ajl, Zo, Axf (by omega)]
   show i * 72057594037927936 % 18446744073709551616 = _
   omega
  rw [e, List.replicate_succ, An3 (by simp [Ah8])]
  have h2 := Aw1 s b j (i + 1) q (by omega) (by omega)
  have h3 : Ah8 (i + 1) = Ah8 i ++ [UInt64.ofNat (Mh 8 (i * 72057594037927936))] := by simp [Ah8, List.range_succ]
  rw [h3] at h2
  rw [show ((i : Int) + 1) = ((i + 1 : Nat) : Int) by omega, ← h2]
  simp
theorem Bjb {i : Nat} (h : i < 256) : Aj (Ah8 256) (i : Int) = some (UInt64.ofNat (Mh 8 (i * 72057594037927936))) := by
 rw [Dk (by simpa [Ah8] using h)]; simp [Ah8]
theorem Bdo (s : UInt64) (c : UInt8) : Aj (Ah8 256) (GI.toZ (Xj (Ad (Cr s (GI.toZ (56 : UInt64)).toNat) : UInt8) c)) = some (UInt64.ofNat (Mh 8 (((s.toNat / 72057594037927936) ^^^ c.toNat) * 72057594037927936))) := by
 have hs := s.toNat_lt
 have e : GI.toZ (Xj (Ad (Cr s (GI.toZ (56 : UInt64)).toNat) : UInt8) c) = (((s.toNat / 72057594037927936) ^^^ c.toNat : Nat) : Int) := by
  have e2 : ((Ad (Cr s (GI.toZ (56 : UInt64)).toNat) : UInt8)).toNat = s.toNat / 72057594037927936 := by
   rw [Akw, UInt8.toNat_ofNat', Ad4]
   show s.toNat / 72057594037927936 % 256 = _
   omega
  rw [Ys, Bgp, UInt8.toNat_xor, e2]
 rw [e, Bjb]
 exact Nat.xor_lt_two_pow (n := 8) (by show _ < 256; omega) (by simpa using c.toNat_lt)
theorem Azm (s : UInt64) (c : UInt8) : Xj (Ff s (GI.toZ (8 : UInt64)).toNat) (UInt64.ofNat (Mh 8 (((s.toNat / 72057594037927936) ^^^ c.toNat) * 72057594037927936))) = UInt64.ofNat (Amw s.toNat c.toNat) := by
 have hs := s.toNat_lt
 have hc : c.toNat < 256 := by simpa using c.toNat_lt
 apply UInt64.toNat_inj.1
 have hlt : Mh 8 (((s.toNat / 72057594037927936) ^^^ c.toNat) * 72057594037927936) < 18446744073709551616 := Arl 8 (c56 (Nat.xor_lt_two_pow (n := 8) (by show _ < 256; omega) (by simpa using c.toNat_lt)))
 have e : (GI.toZ (8 : UInt64)).toNat = 8 := rfl
 rw [e, Avg, UInt64.toNat_xor, Ajl, Axf hlt, Axf (Art hs hc), Azv hs hc, Nat.mul_comm s.toNat]
theorem Asv (b : List UInt8) (s0 : UInt64) (hb : b.length < 4611686018427387904) : ∀ (j i q : Nat) (s : UInt64), i + j = b.length → j < q → Qi b s0 (Ah8 256) q s (i : Int) = some (UInt64.ofNat (Ave s.toNat (b.drop i)), 0)
 | 0, i, q + 1, s, hi, _ => by
  rw [Qi, Aaq, if_neg (by rw [Ae, Ac]; simp; omega), show i = b.length by omega, List.drop_length]
  simp [Ahe, Agb, Ag2, Al6, Ave]
 | j + 1, i, q + 1, s, hi, hq => by
  have hlt : i < b.length := by omega
  have hc := b[i].toNat_lt
  rw [Qi, Aaq, if_pos (by rw [Ae, Ac]; simp; omega), Dk hlt, Aa, Bdo, Aa, Aa, Azm, Ag (by omega) (by omega)]
  have h := Asv b s0 hb j (i + 1) q (UInt64.ofNat (Amw s.toNat b[i].toNat)) (by omega) (by omega)
  rw [show ((i : Int) + 1) = ((i + 1 : Nat) : Int) by omega, h, drop_cons hlt, Axf (Art s.toNat_lt (by simpa using hc))]
  rfl
theorem Bc7 (b : List UInt8) (hb : b.length ≤ 100000) : Ajw b = some (Adh b, 0) := by
 have h := Aw1 0 b 256 0 Bc (by omega) (by have := Ay; omega)
 have h2 := Asv b 0 (by omega) b.length 0 Bc 0 (by omega) (by have := Ay; omega)
 have hn : Ak1 0 b = some (Adh b, 0) := by
  rw [Ak1, Ait, if_neg (by rw [Bb, Ac]; simp; omega), Agk]
  refine Eq.trans h ?_
  rw [Aae, Af3, Af4]
  exact h2
 rw [Ajw, hn, Aa]
theorem Bid (p : List UInt8) (hp : p.length ≤ 64) : Afs p = some (leB (Adh p).toNat 8, 0) := by
 rw [Afs, Arw, if_neg (by rw [Bb, Ac]; simp; omega), Bc7 p (by omega), Aa, Aa]
 simp only
 have h := Bbx (Adh p) 8 (by omega) (by omega) (by simpa using (Adh p).toNat_lt)
 rw [if_neg (by rw [Au]; simp)]
 exact congrArg (fun o => Option.bind o fun x : List UInt8 × Int => some (x.1, x.2)) h
theorem Bhu (p : List UInt8) (hp : p.length ≤ 64) : Mz p = some (leB (Adh p).toNat 8) := by
 have h := Au5 (Adh p) 8 (by omega)
 rw [Mz, Abn, Bcb p (by omega), Aa, Aa]
 exact congrArg (fun o => Option.bind o fun l => some l) h
def s8 (n : Nat) : Int32 := Int32.ofInt (if n < 128 then (n : Int) else (n : Int) - 256)
def Ahu (d : UInt64) (n : Nat) : List Int32 := (List.range n).map fun i => s8 (d.toNat / 256 ^ i % 256)
theorem Aji (d : UInt64) (n : Nat) : (Ahu d n).length = n := by simp [Ahu]
theorem Awx (d : UInt64) (n : Nat) : Ahu d (n + 1) = Ahu d n ++ [s8 (d.toNat / 256 ^ n % 256)] := by simp [Ahu, List.range_succ]
theorem bm8 (z : Nat) : (z : Int).bmod Int8.size = if z % 256 < 128 then ((z % 256 : Nat) : Int) else ((z % 256 : Nat) : Int) - 256 := by
 rw [show Int8.size = 256 from rfl, Int.bmod_def]
 split <;> split <;> omega
theorem Bgf (d : UInt64) : ∀ (j i q : Nat), i + j = 8 → j < q → Acv d q (i : Int) (Ahu d i ++ List.replicate (16 - i) 0) = some (Ahu d 8 ++ List.replicate 8 0)
 | 0, i, q + 1, hi, _ => by
  obtain rfl : i = 8 := by omega
  rw [Acv, Akh, if_neg (by rw [Ae]; simp)]; rfl
 | j + 1, i, q + 1, hi, hq => by
  have hlen : (Ahu d i ++ List.replicate (16 - i) 0).length = 16 := by simp [Aji]; omega
  have ih := Bgf d j (i + 1) q (by omega) (by omega)
  have e8 : Bo (8 : Int) (i : Int) = ((8 * i : Nat) : Int) := by rw [Hs (by omega) (by omega)]; omega
  have ev : (Ad (Ad (Cr d (GI.toZ (((8 * i : Nat) : Int))).toNat) : Int8) : Int32) = s8 (d.toNat / 256 ^ i % 256) := by
   have e1 : (Cr d (GI.toZ (((8 * i : Nat) : Int))).toNat).toNat = d.toNat / 256 ^ i := by
    rw [show (GI.toZ (((8 * i : Nat) : Int))).toNat = 8 * i from rfl, Ad4, Nat.pow_mul]
   show Int32.ofInt (Int8.ofInt ((Cr d (GI.toZ (((8 * i : Nat) : Int))).toNat).toNat : Int)).toInt = _
   rw [e1, s8, Int8.toInt_ofInt, bm8]
  rw [Acv, Akh, if_pos (by rw [Ae]; simp; omega), e8, Cu (by rw [Dt]; simp; omega), Aa, ev, Dk (by omega), Aa, Wu _ (by omega), Aa, Ag (by omega) (by omega), show 16 - i = (15 - i) + 1 by omega, List.replicate_succ, An3 (Aji d i)]
  rw [Awx, show 16 - (i + 1) = 15 - i by omega, List.append_assoc] at ih
  exact ih
theorem Blc (d : UInt64) : ∀ (j i q : Nat) (e : UInt64), i + j = 8 → j < q → e.toNat = d.toNat / 256 ^ i → Gf q e (i : Int) (Ahu d i ++ List.replicate (16 - i) 0) = some (Ahu d 8 ++ List.replicate 8 0)
 | 0, i, q + 1, e, hi, _, he => by
  obtain rfl : i = 8 := by omega
  rw [Gf, Qv, if_neg (by rw [Ae]; simp)]; rfl
 | j + 1, i, q + 1, e, hi, hq, he => by
  have hlen : (Ahu d i ++ List.replicate (16 - i) 0).length = 16 := by simp [Aji]; omega
  have hq2 : (Cw e (256 : UInt64)).toNat = d.toNat / 256 ^ (i + 1) := by
   rw [Aq0, UInt64.toNat_div, he, Nat.pow_succ, ← Nat.div_div_eq_div_mul]; rfl
  have ih := Blc d j (i + 1) q (Cw e (256 : UInt64)) (by omega) (by omega) hq2
  have ev : (Ad (Zr e (256 : UInt64)) : Int32) = Int32.ofInt ((d.toNat / 256 ^ i % 256 : Nat) : Int) := by
   show Int32.ofInt ((Zr e (256 : UInt64)).toNat : Int) = _
   rw [Ba0, UInt64.toNat_mod, he]; rfl
  have hz : d.toNat / 256 ^ i % 256 < 256 := Nat.mod_lt _ (by omega)
  have et : (Int32.ofInt ((d.toNat / 256 ^ i % 256 : Nat) : Int)).toInt = ((d.toNat / 256 ^ i % 256 : Nat) : Int) := by
   rw [Int32.toInt_ofInt, Int.bmod_eq_of_le (by show -(4294967296 / 2 : Int) ≤ _; omega) (by show _ < (4294967296 + 1) / 2; omega)]
  have hp8 : ∀ x : Int32, x = s8 (d.toNat / 256 ^ i % 256) → Rk (Gf q) e (i : Int) (Ahu d i ++ List.replicate (16 - i) 0) x = some (Ahu d 8 ++ List.replicate 8 0) := by
   intro x hx
   rw [Rk, Agh, hx, Dk (by omega), Aa, Wu _ (by omega), Aa, Ag (by omega) (by omega), show 16 - i = (15 - i) + 1 by omega, List.replicate_succ, An3 (Aji d i)]
   rw [Awx, show 16 - (i + 1) = 15 - i by omega, List.append_assoc] at ih
   exact ih
  rw [Gf, Qv, if_pos (by rw [Ae]; simp; omega), ev, Bei, et, show (127 : Int32).toInt = 127 from rfl]
  by_cases h : d.toNat / 256 ^ i % 256 < 128
  ·rw [if_neg (by simp only [decide_eq_true_eq]; omega)]
   exact hp8 _ (by rw [s8, if_pos h])
  ·rw [if_pos (by simp only [decide_eq_true_eq]; omega)]
   refine hp8 _ ?_
   rw [s8, if_neg h, Awi, Int32.ofInt_sub]; rfl
def Apo (p : List UInt8) : List Int32 := Ahu (Adh p) 8 ++ List.replicate 8 0
theorem Awr (p : List UInt8) : (Apo p).length = 16 := by simp [Apo, Aji]
theorem Bje (p : List UInt8) (hp : p.length ≤ 64) : Af0 p = some (Apo p, 0) := by
 have h := Bgf (Adh p) 8 0 Bc (by omega) (by have := Ay; omega)
 have h2 : Bak (Adh p) = some (Apo p) := h
 rw [Af0, if_neg (by rw [Bb, Ac]; simp; omega), Bc7 p (by omega), Aa]
 simp only
 rw [if_neg (by rw [Au]; simp), h2, Aa]
theorem Bmi (p : List UInt8) (hp : p.length ≤ 64) : Up p = some (Apo p, 0) := by
 have h := Blc (Adh p) 8 0 Bc (Adh p) (by omega) (by have := Ay; omega) (by simp)
 have h2 : Aeo (Adh p) = some (Apo p) := h
 rw [Up, if_neg (by rw [Bb, Ac]; simp; omega), Acj, Aah, if_neg (by rw [Bb, Ac]; simp; omega), Bcb p (by omega), Aa, Aa, Aa]
 simp only
 rw [h2, Aa]
end Go.Pl
set_option linter.unusedVariables false
set_option linter.unusedSimpArgs false
namespace Go.Pl
open Go Go.Lv
def u8 (z : Int) : UInt8 := UInt8.ofNat (z % 256).toNat
theorem Aza (z : Int) : u8 (z % 256) = u8 z := by rw [u8, u8]; congr 2; omega
def wB (bits : Int) : Nat := if bits = 8 then 1 else if bits = 16 then 2 else 3
theorem Blv {bits : Int} (h : Du bits) : Cw bits 8 = (wB bits : Int) := by obtain rfl | rfl | rfl := h <;> rfl
theorem Bf1 (bits : Int) : 1 ≤ wB bits ∧ wB bits ≤ 3 := by
 unfold wB; split; · omega
 ·split <;> omega
def Apc (bits : Int) (x : Int) : List UInt8 := if bits = 8 then [u8 (x + 128)] else if bits = 16 then [u8 x, u8 (x / 256)] else [u8 x, u8 (x / 256), u8 (x / 65536)]
theorem Bcz (bits x : Int) : (Apc bits x).length ≤ 3 := by
 unfold Apc; split; · simp
 ·split <;> simp
theorem Bkk (x : Int32) (k : Nat) (hk : k ≤ 32) : (Ad (Cr x k) : UInt8) = u8 (x.toInt.fdiv (2 ^ k)) := by
 have h := Aa0 x
 have e : Cr x k = Int32.ofInt (x.toInt.fdiv (2 ^ k)) := by
  show Int32.ofInt (x.toInt.fdiv (2 ^ min k 32)) = _
  rw [Nat.min_eq_left hk]
 have hb : -2147483648 ≤ x.toInt.fdiv (2 ^ k) ∧ x.toInt.fdiv (2 ^ k) < 2147483648 := by
  have hpos : (0 : Int) < 2 ^ k := Int.pow_pos (by omega)
  rw [Int.fdiv_eq_ediv_of_nonneg _ (by omega)]
  constructor
  ·refine (Int.le_ediv_iff_mul_le hpos).2 ?_
   have : (1 : Int) ≤ 2 ^ k := by omega
   have h2 : -2147483648 * (2 ^ k : Int) ≤ -2147483648 * 1 := Int.mul_le_mul_of_nonpos_left (by omega) this
   omega
  ·refine Int.ediv_lt_of_lt_mul hpos ?_
   have : (1 : Int) ≤ 2 ^ k := by omega
   have h2 : (2147483648 : Int) * 1 ≤ 2147483648 * 2 ^ k := Int.mul_le_mul_of_nonneg_left this (by omega)
   omega
 show UInt8.ofNat ((Cr x k).toInt % 256).toNat = _
 rw [e, Int32.toInt_ofInt, Int.bmod_eq_of_le (by show -(4294967296 / 2 : Int) ≤ _; omega) (by show _ < (4294967296 + 1) / 2; omega)]; rfl
section
variable (bk : Int → List UInt8 → Option (List UInt8 × Int)) (l : List Int32)
theorem Atn {bits : Int} (h : Du bits) (c : Int32) (x : Int) (i q : Nat) (acc : List UInt8) (hi : i < wB bits) (ha : acc.length ≤ 100000) :
  Ho bk bits l c x (q + 1) (i : Int) acc = Ho bk bits l c x q ((i + 1 : Nat) : Int) (acc ++ [u8 (c.toInt.fdiv (2 ^ (8 * i)))]) := by
 have hw := Bf1 bits
 have e8 : Bo (8 : Int) (i : Int) = ((8 * i : Nat) : Int) := by rw [Hs (by omega) (by omega)]; omega
 rw [Ho, Yd, Blv h, if_pos (by rw [Ae]; simp; omega), e8, Cu (by rw [Dt]; simp; omega), Aa, show (GI.toZ (((8 * i : Nat) : Int))).toNat = 8 * i from rfl, Bkk _ _ (by omega), Fc (by simp; omega), Aa, Ag (by omega) (by omega)]; rfl
theorem Bd8 {bits : Int} (h : Du bits) (c : Int32) (x : Int) (q : Nat) (acc : List UInt8) : Ho bk bits l c x (q + 1) ((wB bits : Nat) : Int) acc = bk (Af x 1) acc := by
 rw [Ho, Yd, Blv h, if_neg (by rw [Ae]; simp), Ael, Alp]
theorem Brt {bits : Int} (h : Du bits) (c : Int32) (x : Int) (acc : List UInt8) (ha : acc.length ≤ 90000) (hr : -(hB bits) ≤ c.toInt ∧ c.toInt < hB bits) :
  Jq bk bits l x acc (if bits = 8 then Af c (128 : Int32) else c) = bk (Af x 1) (acc ++ Apc bits c.toInt) := by
 have e : Bc = (Bc - 4) + 1 + 1 + 1 + 1 := by have := Ay; omega
 have hc := Aa0 c
 rw [Jq, Aey, Aei, e]
 have g0 := fun (c : Int32) q acc ha => Atn bk l h c x 0 q acc (by have := Bf1 bits; omega) ha
 obtain rfl | rfl | rfl := h
 ·have hh : hB 8 = 128 := rfl
  rw [hh] at hr
  have e1 : (Af c (128 : Int32)).toInt = c.toInt + 128 := by
   show (Int32.ofInt (c.toInt + (128 : Int32).toInt)).toInt = _
   rw [show (128 : Int32).toInt = 128 from rfl, Int32.toInt_ofInt, Int.bmod_eq_of_le (by show -(4294967296 / 2 : Int) ≤ _; omega) (by show _ < (4294967296 + 1) / 2; omega)]
  have g1 := Bd8 bk l (bits := 8) (.inl rfl) (Af c (128 : Int32)) x (Bc - 4 + 1 + 1)
  rw [if_pos rfl, show (0 : Int) = ((0 : Nat) : Int) from rfl, g0 _ _ _ (by omega)]
  refine Eq.trans (g1 _) ?_
  rw [e1, Apc, if_pos rfl]
  show bk _ (acc ++ [u8 ((c.toInt + 128).fdiv 1)]) = _
  rw [Int.fdiv_one]
 ·have g1 := fun q acc ha => Atn bk l (bits := 16) (.inr (.inl rfl)) c x 1 q acc (by decide) ha
  have g2 := Bd8 bk l (bits := 16) (.inr (.inl rfl)) c x (Bc - 4 + 1)
  rw [if_neg (by decide), show (0 : Int) = ((0 : Nat) : Int) from rfl, g0 _ _ _ (by omega), g1 _ _ (by simp; omega)]
  refine Eq.trans (g2 _) ?_
  rw [Apc, if_neg (by decide), if_pos rfl, List.append_assoc]
  show bk _ (acc ++ [u8 (c.toInt.fdiv 1), u8 (c.toInt.fdiv 256)]) = _
  rw [Int.fdiv_one, Int.fdiv_eq_ediv_of_nonneg _ (by omega)]
 ·have g1 := fun q acc ha => Atn bk l (bits := 24) (.inr (.inr rfl)) c x 1 q acc (by decide) ha
  have g2 := fun q acc ha => Atn bk l (bits := 24) (.inr (.inr rfl)) c x 2 q acc (by decide) ha
  have g3 := Bd8 bk l (bits := 24) (.inr (.inr rfl)) c x (Bc - 4)
  rw [if_neg (by decide), show (0 : Int) = ((0 : Nat) : Int) from rfl, g0 _ _ _ (by omega), g1 _ _ (by simp; omega), g2 _ _ (by simp; omega)]
  refine Eq.trans (g3 _) ?_
  rw [Apc, if_neg (by decide), if_neg (by decide), List.append_assoc, List.append_assoc]
  show bk _ (acc ++ [u8 (c.toInt.fdiv 1), u8 (c.toInt.fdiv 256), u8 (c.toInt.fdiv 65536)]) = _
  rw [Int.fdiv_one, Int.fdiv_eq_ediv_of_nonneg _ (by omega), Int.fdiv_eq_ediv_of_nonneg _ (by omega)]
end
def Qs (bits : Int) (l : List Int32) : List UInt8 := l.flatMap fun x => Apc bits x.toInt
theorem Ak3 (bits : Int) : ∀ l : List Int32, (Qs bits l).length ≤ 3 * l.length
 | [] => by simp [Qs]
 | x :: l => by
  have h1 := Ak3 bits l
  have h2 := Bcz bits x.toInt
  simp only [Qs, List.flatMap_cons, List.length_append, List.length_cons] at *
  omega
def inR (bits : Int) (l : List Int32) : Prop := ∀ x ∈ l, -(hB bits) ≤ x.toInt ∧ x.toInt < hB bits
theorem Bg2 {bits : Int} (h : Du bits) (l : List Int32) (hl : l.length ≤ 4000) (hr : inR bits l) : ∀ (j i q : Nat), i + j = l.length → j < q → Er bits l q (i : Int) (Qs bits (l.take i)) = some (Qs bits l, 0)
 | 0, i, q + 1, hi, _ => by
  rw [Er, Xz, if_neg (by rw [Ae, Ac]; simp; omega), List.take_of_length_le (by omega)]; rfl
 | j + 1, i, q + 1, hi, hq => by
  have hlt : i < l.length := by omega
  have ih := Bg2 h l hl hr j (i + 1) q (by omega) (by omega)
  have hlen := Ak3 bits (l.take i)
  have hx := hr l[i] (List.getElem_mem _)
  have h1 := Brt (Er bits l q) l h l[i] (i : Int) (Qs bits (l.take i)) (by rw [List.length_take] at hlen; omega) hx
  rw [Er, Xz, if_pos (by rw [Ae, Ac]; simp; omega), Dk hlt, Aa]
  have e : (if (geq bits (8 : Int)) = true then Jq (Er bits l q) bits l (i : Int) (Qs bits (l.take i)) (Af l[i] (128 : Int32)) else Jq (Er bits l q) bits l (i : Int) (Qs bits (l.take i)) l[i]) = Jq (Er bits l q) bits l (i : Int) (Qs bits (l.take i)) (if bits = 8 then Af l[i] (128 : Int32) else l[i]) := by
   by_cases h8 : bits = 8
   ·rw [if_pos (by rw [Be]; simpa using h8), if_pos h8]
   ·rw [if_neg (by rw [Be]; simpa using h8), if_neg h8]
  rw [e, h1, Ag (by omega) (by omega)]
  rw [Ajt hlt] at ih
  have e2 : Qs bits (l.take i ++ [l[i]]) = Qs bits (l.take i) ++ Apc bits l[i].toInt := by unfold Qs; rw [List.flatMap_append, List.flatMap_singleton]
  rw [e2] at ih
  exact ih
theorem Ayu {bits : Int} (h : Du bits) {l : List Int32} (hl : l.length ≤ 4000) (hc : Bi bits l = some 0) : inR bits l := by
 have hh := Arx bits
 have key : ∀ (j i q : Nat), i + j = l.length → j < q → Bh l (hB bits) q (i : Int) = some 0 → ∀ k, i ≤ k → (hk : k < l.length) → -(hB bits) ≤ l[k].toInt ∧ l[k].toInt < hB bits := by
  intro j
  induction j with
  | zero => intro i q hi hq _ k h1 h2; omega
  | succ j ih =>
   intro i q hi hq hs k h1 h2
   obtain ⟨q, rfl⟩ : ∃ k, q = k + 1 := ⟨q - 1, by omega⟩
   rw [Bh, Df, if_pos (by rw [Ae, Ac]; simp; omega), Dk (by omega), Aa, Aa, El, Bem, By (by omega) (by omega), Ag (by omega) (by omega), Ae, Dt] at hs
   by_cases g1 : l[i].toInt < 0 - hB bits
   ·rw [if_pos (by simpa using g1)] at hs; simp at hs
   ·rw [if_neg (by simpa using g1)] at hs
    by_cases g2 : hB bits ≤ l[i].toInt
    ·rw [if_pos (by simpa using g2)] at hs; simp at hs
    ·rw [if_neg (by simpa using g2)] at hs
     by_cases hk : k = i
     ·subst hk; omega
     ·exact ih (i + 1) q (by omega) (by omega) hs k (by omega) h2
 rw [Bi, Fi, At0 h, Aa, if_neg (by rw [Be]; simp; omega), if_neg (by rw [Bb, Ac]; simp; omega)] at hc
 have := key l.length 0 Bc (by omega) (by have := Ay; omega) hc
 intro x hx
 obtain ⟨k, hk, rfl⟩ := List.getElem_of_mem hx
 exact this k (by omega) hk
theorem Bee {bits : Int} (h : Du bits) {l : List Int32} (hl : l.length ≤ 4000) (hc : Bi bits l = some 0) : Ad9 bits l = some (Qs bits l, 0) := by
 have h1 := Bg2 h l hl (Ayu h hl hc) l.length 0 Bc (by omega) (by have := Ay; omega)
 rw [Ad9, Agy, Au0 h l hl, hc, Aa, if_neg (by rw [Au]; simp)]
 exact h1
theorem Bno {bits : Int} (h : Du bits) (x : Int32) (hr : -(hB bits) ≤ x.toInt ∧ x.toInt < hB bits) : Wo bits x = some (Apc bits x.toInt) := by
 have hx := Aa0 x
 have gu : ∀ z : Int, (Ad z : UInt8) = u8 z := fun z => rfl
 have hq : ∀ n : Int, 0 ≤ n → n ≤ 20000000 → Cw n (256 : Int) = n / 256 ∧ Cw n (65536 : Int) = n / 65536 := by
  intro n h1 h2
  constructor <;> (rw [Aer, Int.tdiv_eq_ediv_of_nonneg h1, By (by omega) (by omega)])
 have hm : ∀ n : Int, 0 ≤ n → Kf n (256 : Int) = n % 256 := fun n h1 => by rw [Kf, Int.tmod_eq_emod_of_nonneg h1]
 rw [Wo, Xd, El]
 obtain rfl | rfl | rfl := h
 ·rw [if_pos (by rw [Be]; rfl), Ag (by omega) (by omega), gu, Apc, if_pos rfl]
 ·have hh : hB 16 = 32768 := rfl
  rw [hh] at hr
  have hp : ∀ n : Int, 0 ≤ n → n ≤ 70000 → u8 n = u8 x.toInt → u8 (n / 256) = u8 (x.toInt / 256) → Hm 16 n = some (Apc 16 x.toInt) := by
   intro n h1 h2 h3 h4
   rw [Hm, Xh, if_neg (by rw [Be]; decide), hm n h1, (hq n h1 (by omega)).1, hm _ (by omega), gu, gu, Aza, Aza, h3, h4, Apc, if_neg (by decide), if_pos rfl]
  rw [if_neg (by rw [Be]; decide)]
  by_cases hn : x.toInt < 0
  ·rw [if_pos (by rw [Ae]; simpa using hn), At0 (.inr (.inl rfl)), Aa, hh, Hs (by omega) (by omega), Ag (by omega) (by omega)]
   refine hp _ (by omega) (by omega) ?_ ?_
   ·rw [u8, u8]; congr 2; omega
   ·rw [u8, u8]; congr 2; omega
  ·rw [if_neg (by rw [Ae]; simpa using hn)]
   exact hp _ (by omega) (by omega) rfl rfl
 ·have hh : hB 24 = 8388608 := rfl
  rw [hh] at hr
  have hp : ∀ n : Int, 0 ≤ n → n ≤ 16777215 → u8 n = u8 x.toInt → u8 (n / 256) = u8 (x.toInt / 256) → u8 (n / 65536) = u8 (x.toInt / 65536) → Hm 24 n = some (Apc 24 x.toInt) := by
   intro n h1 h2 h3 h4 h5
   rw [Hm, Xh, if_pos (by rw [Be]; rfl), hm n h1, (hq n h1 (by omega)).1, (hq n h1 (by omega)).2, hm _ (by omega), gu, gu, gu, Aza, Aza, h3, h4, h5, Fc (by simp), Aa, Apc, if_neg (by decide), if_neg (by decide)]; rfl
  rw [if_neg (by rw [Be]; decide)]
  by_cases hn : x.toInt < 0
  ·rw [if_pos (by rw [Ae]; simpa using hn), At0 (.inr (.inr rfl)), Aa, hh, Hs (by omega) (by omega), Ag (by omega) (by omega)]
   refine hp _ (by omega) (by omega) ?_ ?_ ?_
   ·rw [u8, u8]; congr 2; omega
   ·rw [u8, u8]; congr 2; omega
   ·rw [u8, u8]; congr 2; omega
  ·rw [if_neg (by rw [Ae]; simpa using hn)]
   exact hp _ (by omega) (by omega) rfl rfl rfl
theorem Bhl {bits : Int} (h : Du bits) (l : List Int32) (hl : l.length ≤ 4000) (hr : inR bits l) : ∀ (j i q : Nat), i + j = l.length → j < q → Fp bits l q (i : Int) (Qs bits (l.take i)) = some (Qs bits l, 0)
 | 0, i, q + 1, hi, _ => by
  rw [Fp, Me, if_neg (by rw [Ae, Ac]; simp; omega), List.take_of_length_le (by omega)]; rfl
 | j + 1, i, q + 1, hi, hq => by
  have hlt : i < l.length := by omega
  have ih := Bhl h l hl hr j (i + 1) q (by omega) (by omega)
  have hlen := Ak3 bits (l.take i)
  have hol := Bcz bits l[i].toInt
  rw [List.length_take] at hlen
  have e2 : Qs bits (l.take i ++ [l[i]]) = Qs bits (l.take i) ++ Apc bits l[i].toInt := by unfold Qs; rw [List.flatMap_append, List.flatMap_singleton]
  rw [Ajt hlt, e2] at ih
  rw [Fp, Me, if_pos (by rw [Ae, Ac]; simp; omega), Dk hlt, Aa, Bno h _ (hr l[i] (List.getElem_mem _)), Aa, Fc (by omega), Aa, Ag (by omega) (by omega)]
  exact ih
theorem Bis {bits : Int} (h : Du bits) {l : List Int32} (hl : l.length ≤ 4000) (hc : Bi bits l = some 0) : Qt bits l = some (Qs bits l, 0) := by
 have h1 := Bhl h l hl (Ayu h hl hc) l.length 0 Bc (by omega) (by have := Ay; omega)
 rw [Qt, Th, hc, Aa, if_neg (by rw [Au]; simp)]
 exact h1
end Go.Pl
set_option linter.unusedVariables false
set_option linter.unusedSimpArgs false
namespace Go.Pl
open Go Go.Lv
def Ajg : List UInt8 → Nat → Int × Int
 | [], n => ((n : Int), 0)
 | c :: r, n => if 128 ≤ c.toNat then (0, 12) else Ajg r (128 * n + c.toNat)
theorem Bhh : ∀ (l : List UInt8) (n k : Nat), n < 128 ^ k → 0 ≤ (Ajg l n).1 ∧ (Ajg l n).1 < ((128 ^ (k + l.length) : Nat) : Int)
 | [], n, k, h => by simp [Ajg]; exact_mod_cast h
 | c :: r, n, k, h => by
  rw [Ajg]
  split
  ·have : 0 < 128 ^ (k + (c :: r).length) := Nat.pow_pos (by omega)
   exact ⟨Int.le_refl _, by simp only; exact_mod_cast this⟩
  ·have := Bhh r (128 * n + c.toNat) (k + 1) (by rw [Nat.pow_succ]; omega)
   rw [List.length_cons, show k + (r.length + 1) = k + 1 + r.length by omega]
   exact this
theorem or7 (n c : Nat) (hn : n < 268435456) (hc : c < 128) : gor (Ff (n : Int) (GI.toZ (7 : UInt64)).toNat) (c : Int) = ((128 * n + c : Nat) : Int) := by
 have e : (GI.toZ (7 : UInt64)).toNat = 7 := rfl
 have h1 : Ff (n : Int) 7 = ((2 ^ 7 * n : Nat) : Int) := by
  have : Ff (n : Int) 7 = wrap64 ((n : Int) * 2 ^ 7) := rfl
  rw [this, By (by omega) (by omega)]; omega
 rw [e, h1]
 have h2 : gor ((2 ^ 7 * n : Nat) : Int) (c : Int) = wrap64 ((BitVec.ofInt 64 ((2 ^ 7 * n : Nat) : Int) ||| BitVec.ofInt 64 (c : Int)).toNat : Int) := rfl
 rw [h2, BitVec.toNat_or, BitVec.toNat_ofInt, BitVec.toNat_ofInt]
 have h3 : (((2 ^ 7 * n : Nat) : Int) % ((2 ^ 64 : Nat) : Int)).toNat = 2 ^ 7 * n := by omega
 have h4 : ((c : Int) % ((2 ^ 64 : Nat) : Int)).toNat = c := by omega
 rw [h3, h4, ← Nat.two_pow_add_eq_or_of_lt (by simpa using hc), By (by omega) (by omega)]
theorem Bhi (b : List UInt8) (hb : b.length = 4) : ∀ (j i q n : Nat), i + j = 4 → j < q → n < 128 ^ i → Ku b q (n : Int) (i : Int) = some (Ajg (b.drop i) n)
 | 0, i, q + 1, n, hi, _, _ => by
  rw [Ku, Wl, if_neg (by rw [Ae, Ac]; simp; omega), show b.drop i = [] by simp; omega]; rfl
 | j + 1, i, q + 1, n, hi, hq, hn => by
  have hlt : i < b.length := by omega
  have hn2 : n < 268435456 := Nat.lt_of_lt_of_le hn (show 128 ^ i ≤ 128 ^ 4 from Nat.pow_le_pow_right (by omega) (by omega))
  rw [Ku, Wl, if_pos (by rw [Ae, Ac]; simp; omega), Dk hlt, Aa, drop_cons hlt, Ajg, Bky]
  by_cases hc : 128 ≤ b[i].toNat
  ·rw [if_pos (by simp; omega), if_pos hc]
  ·rw [if_neg (by simp; omega), if_neg hc, Afy, or7 n _ hn2 (by omega), Ag (by omega) (by omega)]
   exact Bhi b hb j (i + 1) q _ (by omega) (by omega) (by rw [Nat.pow_succ]; omega)
theorem Bmj (b : List UInt8) (hb : b.length = 4) : ∀ (j i q n : Nat), i + j = 4 → j < q → n < 128 ^ i → Fk b q (n : Int) (i : Int) = some (Ajg (b.drop i) n)
 | 0, i, q + 1, n, hi, _, _ => by
  rw [Fk, Lp, if_neg (by rw [Ae]; simp; omega), show b.drop i = [] by simp; omega]; rfl
 | j + 1, i, q + 1, n, hi, hq, hn => by
  have hlt : i < b.length := by omega
  have hn2 : n < 268435456 := Nat.lt_of_lt_of_le hn (show 128 ^ i ≤ 128 ^ 4 from Nat.pow_le_pow_right (by omega) (by omega))
  rw [Fk, Lp, if_pos (by rw [Ae]; simp; omega), Dk hlt, Aa, drop_cons hlt, Ajg, Bkv]
  have h128 : (128 : UInt8).toNat = 128 := rfl
  by_cases hc : 128 ≤ b[i].toNat
  ·rw [if_pos (by simpa using hc), if_pos hc]
  ·have h3 := b[i].toNat_lt
   rw [if_neg (by simpa using hc), if_neg hc, Aa, Afy, Hs (by omega) (by omega), Ag (by omega) (by omega), Ag (by omega) (by omega)]
   have := Bmj b hb j (i + 1) q (128 * n + b[i].toNat) (by omega) (by omega) (by rw [Nat.pow_succ]; omega)
   rw [← this]; rfl
theorem Bfu (b : List UInt8) (hb : b.length = 4) : Ac8 b = some (Ajg b 0) := by
 have h := Bhi b hb 4 0 Bc 0 (by omega) (by have := Ay; omega) (by simp)
 rw [Ac8, Acp, if_neg (by rw [Au, Ac]; simp; omega), Acw]; exact h
theorem Bim (b : List UInt8) (hb : b.length = 4) : Qz b = some (Ajg b 0) := by
 have h := Bmj b hb 4 0 Bc 0 (by omega) (by have := Ay; omega) (by simp)
 rw [Qz, Tf, if_neg (by rw [Au, Ac]; simp; omega), Tr]; exact h
theorem Be6 {b : List UInt8} (hb : b.length = 4) : 0 ≤ (Ajg b 0).1 ∧ (Ajg b 0).1 < 268435456 := by
 have := Bhh b 0 0 (by simp)
 rw [hb] at this
 simpa using this
theorem Aqe (s p : List UInt8) : Mr s p = some (decide (p.length ≤ s.length ∧ s.take p.length = p)) := by
 rw [Mr]
 by_cases h : p.length ≤ s.length
 ·rw [if_pos (by rw [Dt, Ac, Ac]; simp; omega), show Ac p = (p.length : Int) from rfl, Gd (by omega) (by omega), Aa, Kq, Aa, Int.toNat_natCast]
  congr 1
  rw [Bool.eq_iff_iff]; simp [h]
 ·rw [if_neg (by rw [Dt, Ac, Ac]; simp; omega)]
  simp [h]
def Alo (b : List UInt8) (n : Int) : Int × Int :=
 if 4000 < n then (0, 4) else if (b.length : Int) < n then (0, 24) else
 if b.getD 5 0 = 16 ∧ (b.take n.toNat).drop (n - 10).toNat ≠ [51, 68, 73] ++ part b 3 7 then (0, 12) else (n, 0)
def Atx (b : List UInt8) (r : Int) : Int × Int := Alo b (r + 10 + (if b.getD 5 0 = 16 then 10 else 0))
def Ah4 (b : List UInt8) : Int × Int :=
 if ¬ (3 ≤ b.length ∧ b.take 3 = [73, 68, 51]) then (0, 6) else if b.length < 10 then (0, 24) else
 if (Ajg (part b 6 4) 0).2 ≠ 0 ∨ b.getD 4 0 ≠ 0 ∨ ¬ ((b.getD 5 0 = 0 ∧ 2 ≤ (b.getD 3 0).toNat ∧ (b.getD 3 0).toNat ≤ 4) ∨ (b.getD 5 0 = 16 ∧ b.getD 3 0 = 4)) then (0, 12) else
 Atx b (Ajg (part b 6 4) 0).1
theorem Apr {b : List UInt8} {i : Nat} (h : i < b.length) : Aj b (i : Int) = some (b.getD i 0) := by
 rw [Dk h]; simp [List.getD_eq_getElem?_getD, h]
theorem Nr {b : List UInt8} (a w : Nat) (h : a + w ≤ b.length) : Bs b (a : Int) ((a + w : Nat) : Int) = some (part b a w) := by
 rw [Ak7 (by omega) (by omega) (by omega)]; rfl
theorem Bo6 (b : List UInt8) (r : Int) (h10 : 10 ≤ b.length) (h0 : 0 ≤ r) (h1 : r < 268435456) : Ni b r = some (Atx b r) := by
 have g5 : Aj b (5 : Int) = some (b.getD 5 0) := Apr (i := 5) (by omega)
 have key : ∀ n : Int, 10 ≤ n → n < 268435500 → Mt b n = some (Alo b n) := by
  intro n hn hn2
  rw [Mt, Ady, Alo]
  by_cases c1 : 4000 < n
  ·rw [if_pos (by rw [Bb]; simpa using c1), if_pos c1]
  ·rw [if_neg (by rw [Bb]; simpa using c1), if_neg c1]
   by_cases c2 : (b.length : Int) < n
   ·rw [if_pos (by rw [Ae, Ac]; simpa using c2), if_pos c2]
   ·have e3 : Bs b (3 : Int) (10 : Int) = some (part b 3 7) := Nr 3 7 (by omega)
    rw [if_neg (by rw [Ae, Ac]; simpa using c2), if_neg c2, g5, Aa]
    by_cases c3 : b.getD 5 0 = 16
    ·rw [if_pos (by rw [Aky]; simpa using c3), Ce (by omega) (by omega), Ak7 (by omega) (by omega) (by omega), Aa, e3, Aa, Fc (by rw [Db (by omega)]; simp), Aa]
     by_cases c4 : (b.take n.toNat).drop (n - 10).toNat = [51, 68, 73] ++ part b 3 7
     ·rw [if_neg (by simpa using c4), if_neg (by intro h; exact h.2 c4)]
     ·rw [if_pos (by simpa using c4), if_pos ⟨c3, c4⟩]
    ·rw [if_neg (by rw [Aky]; simpa using c3), if_neg (fun h => c3 h.1)]
 rw [Ni, Vb, g5, Aa, Atx]
 by_cases c3 : b.getD 5 0 = 16
 ·rw [if_pos (by rw [Aky]; simpa using c3), Ag (by rw [Ag] <;> omega) (by rw [Ag] <;> omega), Ag (by omega) (by omega), key _ (by omega) (by omega), if_pos c3, show 10 + r + 10 = r + 10 + 10 by omega]
 ·rw [if_neg (by rw [Aky]; simpa using c3), Ag (by omega) (by omega), key _ (by omega) (by omega), if_neg c3, show 10 + r = r + 10 + 0 by omega]
theorem Blo (b : List UInt8) (hb : b.length < 4611686018427387904) : Ua b = some (Ah4 b) := by
 rw [Ua, Vh, Ah4]
 by_cases h3 : 3 ≤ b.length
 ·rw [if_neg (by rw [Ae, Ac]; simp; omega), Gd (by omega) (by omega), Aa]
  by_cases hp : b.take 3 = [73, 68, 51]
  ·rw [if_neg (by simpa using hp), if_neg (by simp [h3, hp]), Vi, Ux]
   by_cases h10 : b.length < 10
   ·rw [if_pos (by rw [Ae, Ac]; simp; omega), if_pos h10]
   ·have e6 : Bs b (6 : Int) (10 : Int) = some (part b 6 4) := Nr 6 4 (by omega)
    have g3 : Aj b (3 : Int) = some (b.getD 3 0) := Apr (i := 3) (by omega)
    have g4 : Aj b (4 : Int) = some (b.getD 4 0) := Apr (i := 4) (by omega)
    have g5 : Aj b (5 : Int) = some (b.getD 5 0) := Apr (i := 5) (by omega)
    obtain ⟨v1, v2⟩ := Be6 (b := part b 6 4) (Db (by omega))
    rw [if_neg (by rw [Ae, Ac]; simp; omega), if_neg h10, e6, Aa, Bim _ (Db (by omega)), Aa]
    have ht := Bo6 b (Ajg (part b 6 4) 0).1 (by omega) v1 v2
    generalize Ajg (part b 6 4) 0 = v at *
    obtain ⟨v, e⟩ := v
    simp only at ht v1 v2 ⊢
    simp only [Aa, g3, g4, g5, ht]
    generalize b.getD 3 0 = x at *
    generalize b.getD 4 0 = y at *
    generalize b.getD 5 0 = z at *
    simp only [Bfp, Bqs, Bky, Au]
    by_cases he : e = 0 <;> by_cases hy : y = 0 <;> by_cases hz : z = 0 <;> by_cases hz2 : z = 16 <;> by_cases hx : x = 4 <;> by_cases hx2 : x.toNat < 2 <;> by_cases hx4 : 4 < x.toNat <;> simp_all <;> (rw [if_neg (by omega), if_neg (by omega)])
  ·rw [if_pos (by simpa using hp), if_pos (by simp [hp])]
 ·rw [if_pos (by rw [Ae, Ac]; simp; omega), if_pos (by simp [h3])]
theorem Ayk (b : List UInt8) (n : Int) (h10 : 10 ≤ b.length) (hn : 10 ≤ n) (hn2 : n < 268435500) : Yb b (b.getD 5 0) n = some (Alo b n) := by
 rw [Yb, All]
 by_cases c1 : 4000 < n
 ·rw [if_pos (by rw [Bb]; simpa using c1), Alo, if_pos c1]
 ·rw [if_neg (by rw [Bb]; simpa using c1)]
  by_cases c2 : (b.length : Int) < n
  ·rw [if_pos (by rw [Ae, Ac]; simpa using c2), Alo, if_neg c1, if_pos c2]
  ·have e3 : Bs b (3 : Int) (10 : Int) = some (part b 3 7) := Nr 3 7 (by omega)
   rw [if_neg (by rw [Ae, Ac]; simpa using c2)]
   by_cases c3 : b.getD 5 0 = 16
   ·have hl : ((b.take n.toNat).drop (n - 10).toNat).length = 10 := by simp; omega
    have ht : Alo b n = if (b.take n.toNat).drop (n - 10).toNat ≠ [51, 68, 73] ++ part b 3 7 then (0, 12) else (n, 0) := by rw [Alo, if_neg c1, if_neg c2]; simp only [c3, true_and]
    rw [if_pos (by rw [Aky]; simpa using c3), Ce (by omega) (by omega), Ak7 (by omega) (by omega) (by omega), Aa, ht]
    generalize (b.take n.toNat).drop (n - 10).toNat = f at *
    rw [Gd (by omega) (by omega), Aa, Jm (by omega) (by omega), Aa, e3, Aa, Kq, Aa]
    have hf : f = f.take 3 ++ f.drop 3 := (List.take_append_drop 3 f).symm
    by_cases c4 : f = [51, 68, 73] ++ part b 3 7
    ·subst c4
     simp
    ·by_cases c5 : f.take 3 = [51, 68, 73]
     ·have : f.drop 3 ≠ part b 3 7 := fun h => c4 (by rw [hf, c5, h])
      simp only [List.cons_append, List.nil_append] at c4
      simp [c4, c5, this]
     ·simp only [List.cons_append, List.nil_append] at c4
      simp [c4, c5]
   ·rw [if_neg (by rw [Aky]; simpa using c3), Alo, if_neg c1, if_neg c2, if_neg (fun h => c3 h.1)]
theorem Blx (b : List UInt8) (r : Int) (h10 : 10 ≤ b.length) (h0 : 0 ≤ r) (h1 : r < 268435456) : Ya b r (b.getD 5 0) = some (Atx b r) := by
 rw [Ya, Aem, Atx]
 by_cases c3 : b.getD 5 0 = 16
 ·rw [if_pos (by rw [Aky]; simpa using c3), Ag (by rw [Ag] <;> omega) (by rw [Ag] <;> omega), Ag (by omega) (by omega), Ayk b _ h10 (by omega) (by omega), if_pos c3]
 ·rw [if_neg (by rw [Aky]; simpa using c3), Ag (by omega) (by omega), Ayk b _ h10 (by omega) (by omega), if_neg c3]; simp
theorem Bjv (b : List UInt8) (hb : b.length < 4611686018427387904) : Aff b = some (Ah4 b) := by
 rw [Aff, Yc, Aqe, Aa]
 by_cases hp : 3 ≤ b.length ∧ b.take 3 = [73, 68, 51]
 ·rw [if_neg (by simpa using hp)]
  by_cases h10 : b.length < 10
  ·rw [if_pos (by rw [Ae, Ac]; simp; omega), Ah4, if_neg (fun h => h hp), if_pos h10]
  ·have e6 : Bs b (6 : Int) (10 : Int) = some (part b 6 4) := Nr 6 4 (by omega)
   have g3 : Aj b (3 : Int) = some (b.getD 3 0) := Apr (i := 3) (by omega)
   have g4 : Aj b (4 : Int) = some (b.getD 4 0) := Apr (i := 4) (by omega)
   have g5 : Aj b (5 : Int) = some (b.getD 5 0) := Apr (i := 5) (by omega)
   obtain ⟨v1, v2⟩ := Be6 (b := part b 6 4) (Db (by omega))
   have ht := Blx b (Ajg (part b 6 4) 0).1 (by omega) v1 v2
   rw [if_neg (by rw [Ae, Ac]; simp; omega), g3, Aa, g5, Aa, Ae1, Aet, e6, Aa, Bfu _ (Db (by omega)), Aa, Ah4, if_neg (fun h => h hp), if_neg h10]
   generalize Ajg (part b 6 4) 0 = v at *
   obtain ⟨v, e⟩ := v
   simp only at ht v1 v2 ⊢
   simp only [Aa, g4, Aes, Ae0]
   generalize b.getD 3 0 = x at *
   generalize b.getD 4 0 = y at *
   generalize b.getD 5 0 = z at *
   simp only [Bfp, Bri, Aky, Bkv, Au]
   have e2 : (2 : UInt8).toNat = 2 := rfl
   have e4 : (4 : UInt8).toNat = 4 := rfl
   by_cases he : e = 0 <;> by_cases hy : y = 0 <;> by_cases hz : z = 0 <;> by_cases hz2 : z = 16 <;> by_cases hx : x = 4 <;> by_cases hx2 : 2 ≤ x.toNat <;> by_cases hx4 : x.toNat ≤ 4 <;> simp_all
 ·rw [if_pos (by rw [Bool.not_eq_true', decide_eq_false_iff_not]; exact hp), Ah4, if_pos hp]
theorem Bm3 {b : List UInt8} {n : Int} (h : Ah4 b = (n, 0)) : 10 ≤ n ∧ n ≤ b.length ∧ n ≤ 4000 := by
 unfold Ah4 at h
 split at h; · simp at h
 split at h; · simp at h
 split at h; · simp at h
 rename_i h10 _
 obtain ⟨v1, v2⟩ := Be6 (b := part b 6 4) (Db (by omega))
 unfold Atx at h
 generalize hm : (Ajg (part b 6 4) 0).1 + 10 + (if b.getD 5 0 = 16 then 10 else 0) = m at h
 unfold Alo at h
 split at h; · simp at h
 split at h; · simp at h
 split at h; · simp at h
 simp only [Prod.mk.injEq, and_true] at h
 subst h
 refine ⟨?_, by omega, by omega⟩
 rw [← hm]
 split <;> omega
end Go.Pl
set_option linter.unusedVariables false
set_option linter.unusedSimpArgs false
namespace Go.Pl
open Go Go.Lv
def APE : List UInt8 := [65, 80, 69, 84, 65, 71, 69, 88]
def Ahk (n m fl : Nat) : List UInt8 := APE ++ leB 2000 4 ++ leB (n + 32) 4 ++ leB m 4 ++ leB fl 4 ++ List.replicate 8 0
theorem Ahp {n : Nat} (h : n < 18446744073709551616) : (UInt64.ofNat n).toNat = n := by rw [UInt64.toNat_ofNat', Nat.mod_eq_of_lt h]
theorem An7 (n m : Int) (fl : UInt64) (c : UInt64) (i q : Nat) (acc : List UInt8) (hi : i < 6) (hc : Aj ([(2000 : UInt64), (Ad (Af n (32 : Int)) : UInt64), (Ad m : UInt64), fl, (0 : UInt64), (0 : UInt64)] : List UInt64) (i : Int) = some c) (h : c.toNat < 4294967296) (ha : acc.length ≤ 1000000) :
  Yr n m fl (q + 1) (i : Int) acc = Yr n m fl q ((i + 1 : Nat) : Int) (acc ++ leB c.toNat 4) := by
 have hb := Bbx c 4 (by omega) (by omega) (by simpa using h)
 rw [Yr, Ak8, if_pos (by rw [Ae, Ac]; simp; omega), hc, Aa, Aa, show ((4 : Int)) = ((4 : Nat) : Int) from rfl, hb, Aa]
 simp only
 rw [Fc (by rw [Pe]; omega), Aa, Ag (by omega) (by omega)]; rfl
theorem Bcv (n m : Nat) (fl : UInt64) (hn : n ≤ 3000) (hm : m ≤ 1000) (hf : fl.toNat < 4294967296) : Ap4 (n : Int) (m : Int) fl = some (Ahk n m fl.toNat) := by
 have e1 : (Ad (Af (n : Int) (32 : Int)) : UInt64).toNat = n + 32 := by rw [Ag (by omega) (by omega), show (n : Int) + 32 = ((n + 32 : Nat) : Int) by omega, Zo, Ahp (by omega)]
 have e2 : (Ad (m : Int) : UInt64).toNat = m := by rw [Zo, Ahp (by omega)]
 have hF : Bc = (Bc - 7) + 1 + 1 + 1 + 1 + 1 + 1 + 1 := by have := Ay; omega
 rw [Ap4, Apd, Apn, hF]
 rw [show ((0 : Int)) = ((0 : Nat) : Int) from rfl, An7 n m fl 2000 0 _ _ (by omega) rfl (by decide) (by simp), An7 n m fl _ 1 _ _ (by omega) rfl (by rw [e1]; omega) (by simp [Pe]), An7 n m fl _ 2 _ _ (by omega) rfl (by rw [e2]; omega) (by simp [Pe]),
  An7 n m fl fl 3 _ _ (by omega) rfl hf (by simp [Pe]), An7 n m fl 0 4 _ _ (by omega) rfl (by decide) (by simp [Pe]), An7 n m fl 0 5 _ _ (by omega) rfl (by decide) (by simp [Pe]), e1, e2]
 rw [Yr, Ak8, if_neg (by rw [Ae, Ac]; simp), Apk, Avc, Ahk]
 have z : leB (0 : UInt64).toNat 4 ++ leB (0 : UInt64).toNat 4 = List.replicate 8 0 := by decide
 have z2 : leB (2000 : UInt64).toNat 4 = leB 2000 4 := rfl
 rw [List.append_assoc _ (leB (0 : UInt64).toNat 4), z, z2]; rfl
theorem Bhn (n m : Nat) (fl : UInt64) (hn : n ≤ 3000) (hm : m ≤ 1000) (hf : fl.toNat < 4294967296) : Ks (n : Int) (m : Int) fl = some (Ahk n m fl.toNat) := by
 have e1 : (Ad (Af (n : Int) (32 : Int)) : UInt64).toNat = n + 32 := by rw [Ag (by omega) (by omega), show (n : Int) + 32 = ((n + 32 : Nat) : Int) by omega, Zo, Ahp (by omega)]
 have e2 : (Ad (m : Int) : UInt64).toNat = m := by rw [Zo, Ahp (by omega)]
 have w : ∀ c : UInt64, Cz c 4 = some (leB c.toNat 4) := fun c => Au5 c 4 (by omega)
 have z2 : leB (2000 : UInt64).toNat 4 = leB 2000 4 := rfl
 rw [Ks]
 simp only [w, e1, e2, Aa]
 rw [Fc (by simp [Pe]), Aa, Fc (by simp [Pe]), Aa, Fc (by simp [Pe]), Aa, Fc (by simp [Pe]), Aa, Awn (by omega) (by omega), Aa, Fc (by simp [Pe]), Aa, z2]; rfl
theorem Afx {b : List UInt8} {a w k : Nat} (h : a + w ≤ k) : part (b.take k) a w = part b a w := by rw [part, part, List.take_take, Nat.min_eq_left h]
def Ain (b : List UInt8) : Bool := decide (Eh (part b 12 4) < 32 ∨ 3032 < Eh (part b 12 4) ∨ 1000 < Eh (part b 16 4))
theorem Bkp (b : List UInt8) (h : 20 ≤ b.length) : (((Dg (leU (part b 12 4)) (32 : UInt64)) || (Ga (leU (part b 12 4)) (3032 : UInt64))) || (Ga (leU (part b 16 4)) (1000 : UInt64))) = Ain b := by
 rw [Ats, Ah5, Ah5, Ahy (by rw [Db (by omega)]; omega), Ahy (by rw [Db (by omega)]; omega), Ain]
 show ((decide (Eh (part b 12 4) < 32) || decide (3032 < Eh (part b 12 4))) || decide (1000 < Eh (part b 16 4))) = _
 simp [Bool.or_assoc]
theorem Azc (b : List UInt8) (h : 20 ≤ b.length) (hb : Ain b = false) : Ao (Ad (leU (part b 12 4)) : Int) (32 : Int) = ((Eh (part b 12 4) - 32 : Nat) : Int) ∧ (Ad (leU (part b 16 4)) : Int) = ((Eh (part b 16 4) : Nat) : Int) ∧ Eh (part b 12 4) - 32 ≤ 3000 ∧ Eh (part b 16 4) ≤ 1000 := by
 simp only [Ain, decide_eq_false_iff_not] at hb
 refine ⟨?_, Acy (by rw [Db (by omega)]; omega), by omega, by omega⟩
 rw [Acy (by rw [Db (by omega)]; omega), Ce (by omega) (by omega)]; omega
theorem Bfs (b : List UInt8) (fl : UInt64) (h : 20 ≤ b.length) (hl : b.length < 4611686018427387904) (hf : fl.toNat < 4294967296) :
  An1 b fl = some (if Ain b = true then (0, 0, false) else (((Eh (part b 12 4) - 32 : Nat) : Int), ((Eh (part b 16 4) : Nat) : Int), b == Ahk (Eh (part b 12 4) - 32) (Eh (part b 16 4)) fl.toNat)) := by
 have a1 : Ajn b 12 4 = some (leU (part b 12 4), 0) := Axv b 12 4 (by omega) (by omega) (by omega) hl
 have a2 : Ajn b 16 4 = some (leU (part b 16 4), 0) := Axv b 16 4 (by omega) (by omega) (by omega) hl
 rw [An1, a1, Aa]
 simp only
 rw [a2, Aa]
 simp only
 rw [Bkp b h]
 cases hb : Ain b with
 | true => rfl
 | false =>
  obtain ⟨i1, i2, i3, i4⟩ := Azc b h hb
  rw [i1, i2, Bcv _ _ _ i3 i4 hf]
  rfl
theorem Bk7 (b : List UInt8) (h : 20 ≤ b.length) (hl : b.length < 4611686018427387904) :
  Tz b = some (if Ain b = true then (0, 0, false) else (((Eh (part b 12 4) - 32 : Nat) : Int), ((Eh (part b 16 4) : Nat) : Int), true)) := by
 have a1 : Bs b 12 16 = some (part b 12 4) := Nr 12 4 (by omega)
 have a2 : Bs b 16 20 = some (part b 16 4) := Nr 16 4 (by omega)
 rw [Tz, a1, Aa, Bcy _ (by rw [Db (by omega)]; omega), Aa, a2, Aa, Bcy _ (by rw [Db (by omega)]; omega), Aa, Bkp b h]
 cases hb : Ain b with
 | true => rfl
 | false =>
  obtain ⟨i1, i2, i3, i4⟩ := Azc b h hb
  rw [i1, i2]; rfl
def Nv (b : List UInt8) : Int × Int :=
 if ¬ (8 ≤ b.length ∧ b.take 8 = APE) then (0, 6) else if b.length < 32 then (0, 24) else
 if Ain b = true ∨ b.take 32 ≠ Ahk (Eh (part b 12 4) - 32) (Eh (part b 16 4)) 2684354560 then (0, 12) else
 if b.length < Eh (part b 12 4) + 32 then (0, 24) else
 if (b.take (Eh (part b 12 4) + 32)).drop (Eh (part b 12 4)) ≠ Ahk (Eh (part b 12 4) - 32) (Eh (part b 16 4)) 2147483648 then (0, 12) else (((Eh (part b 12 4) + 32 : Nat) : Int), 0)
theorem Bcf (b : List UInt8) : Ain (b.take 32) = Ain b := by rw [Ain, Ain, Afx (by omega), Afx (by omega)]
section
variable {b : List UInt8}
theorem fa1 (h : ¬ (8 ≤ b.length ∧ b.take 8 = APE)) : Nv b = (0, 6) := by rw [Nv, if_pos h]
theorem fa2 (h : 8 ≤ b.length ∧ b.take 8 = APE) (h2 : b.length < 32) : Nv b = (0, 24) := by rw [Nv, if_neg (fun h' => h' h), if_pos h2]
variable (h : 8 ≤ b.length ∧ b.take 8 = APE) (h2 : ¬ b.length < 32)
include h h2
theorem fa3 (h3 : Ain b = true) : Nv b = (0, 12) := by rw [Nv, if_neg (fun h' => h' h), if_neg h2, if_pos (.inl h3)]
theorem fa4 (h4 : b.take 32 ≠ Ahk (Eh (part b 12 4) - 32) (Eh (part b 16 4)) 2684354560) : Nv b = (0, 12) := by rw [Nv, if_neg (fun h' => h' h), if_neg h2, if_pos (.inr h4)]
variable (h3 : Ain b = false) (h4 : b.take 32 = Ahk (Eh (part b 12 4) - 32) (Eh (part b 16 4)) 2684354560)
include h3 h4
theorem fa5 (h5 : b.length < Eh (part b 12 4) + 32) : Nv b = (0, 24) := by
 rw [Nv, if_neg (fun h' => h' h), if_neg h2, if_neg (fun h' => h'.elim (fun e => by rw [h3] at e; cases e) fun e => e h4), if_pos h5]
theorem fa6 (h5 : ¬ b.length < Eh (part b 12 4) + 32) (h6 : (b.take (Eh (part b 12 4) + 32)).drop (Eh (part b 12 4)) ≠ Ahk (Eh (part b 12 4) - 32) (Eh (part b 16 4)) 2147483648) : Nv b = (0, 12) := by
 rw [Nv, if_neg (fun h' => h' h), if_neg h2, if_neg (fun h' => h'.elim (fun e => by rw [h3] at e; cases e) fun e => e h4), if_neg h5, if_pos h6]
theorem fa7 (h5 : ¬ b.length < Eh (part b 12 4) + 32) (h6 : (b.take (Eh (part b 12 4) + 32)).drop (Eh (part b 12 4)) = Ahk (Eh (part b 12 4) - 32) (Eh (part b 16 4)) 2147483648) : Nv b = (((Eh (part b 12 4) + 32 : Nat) : Int), 0) := by
 rw [Nv, if_neg (fun h' => h' h), if_neg h2, if_neg (fun h' => h'.elim (fun e => by rw [h3] at e; cases e) fun e => e h4), if_neg h5, if_neg (fun h' => h' h6)]
end
theorem Bfa (b : List UInt8) (hl : b.length < 4611686018427387904) : An4 b = some (Nv b) := by
 rw [An4, Aqe, Aa]
 by_cases hp : 8 ≤ b.length ∧ b.take 8 = APE
 ·rw [if_neg (by simpa [APE] using hp)]
  by_cases h32 : b.length < 32
  ·rw [if_pos (by rw [Ae, Ac]; simp; omega), fa2 hp h32]
  ·have t := Bfs (b.take 32) 2684354560 (by simp; omega) (by simp; omega) (by decide)
   rw [Bcf, Afx (by omega), Afx (by omega)] at t
   rw [if_neg (by rw [Ae, Ac]; simp; omega), Gd (by omega) (by omega), Aa, show (32 : Int).toNat = 32 from rfl, t, Aa]
   cases hb : Ain b with
   | true => rw [fa3 hp h32 hb]; simp
   | false =>
    obtain ⟨i1, i2, i3, i4⟩ := Azc b (by omega) hb
    have i5 : 32 ≤ Eh (part b 12 4) := by simp only [Ain, decide_eq_false_iff_not] at hb; omega
    simp only [Bool.false_eq_true, if_false, false_or]
    by_cases c1 : b.take 32 = Ahk (Eh (part b 12 4) - 32) (Eh (part b 16 4)) 2684354560
    ·have c1' : b.take 32 = Ahk (Eh (part b 12 4) - 32) (Eh (part b 16 4)) (2684354560 : UInt64).toNat := c1
     rw [if_neg (by simpa using c1'), Ag (by omega) (by omega)]
     have e1 : ((Eh (part b 12 4) - 32 : Nat) : Int) + 64 = ((Eh (part b 12 4) + 32 : Nat) : Int) := by omega
     rw [e1]
     by_cases c2 : b.length < Eh (part b 12 4) + 32
     ·rw [if_pos (by rw [Ae, Ac]; simp; omega), fa5 hp h32 hb c1 c2]
     ·rw [if_neg (by rw [Ae, Ac]; simp; omega), Ce (by omega) (by omega), Ak7 (by omega) (by omega) (by omega), Aa, Bcv _ _ _ i3 i4 (by decide), Aa, Kq, Aa]
      rw [show (((Eh (part b 12 4) + 32 : Nat) : Int)).toNat = Eh (part b 12 4) + 32 by omega, show (((Eh (part b 12 4) + 32 : Nat) : Int) - 32).toNat = Eh (part b 12 4) by omega]
      by_cases c3 : (b.take (Eh (part b 12 4) + 32)).drop (Eh (part b 12 4)) = Ahk (Eh (part b 12 4) - 32) (Eh (part b 16 4)) 2147483648
      ·have c3' : (b.take (Eh (part b 12 4) + 32)).drop (Eh (part b 12 4)) = Ahk (Eh (part b 12 4) - 32) (Eh (part b 16 4)) (2147483648 : UInt64).toNat := c3
       rw [if_neg (by simpa using c3'), fa7 hp h32 hb c1 c2 c3]
      ·have c3' : ¬ (b.take (Eh (part b 12 4) + 32)).drop (Eh (part b 12 4)) = Ahk (Eh (part b 12 4) - 32) (Eh (part b 16 4)) (2147483648 : UInt64).toNat := c3
       rw [if_pos (by simpa using c3'), fa6 hp h32 hb c1 c2 c3]
    ·have c1' : ¬ b.take 32 = Ahk (Eh (part b 12 4) - 32) (Eh (part b 16 4)) (2684354560 : UInt64).toNat := c1
     rw [if_pos (by simpa using c1'), fa4 hp h32 c1]
 ·rw [if_pos (by rw [Bool.not_eq_true', decide_eq_false_iff_not]; exact hp), fa1 hp]
theorem Bhy (b : List UInt8) (hl : b.length < 4611686018427387904) : Rh b = some (Nv b) := by
 rw [Rh, Tn]
 by_cases h8 : 8 ≤ b.length
 ·rw [if_neg (by rw [Ae, Ac]; simp; omega), Gd (by omega) (by omega), Aa, show (8 : Int).toNat = 8 from rfl]
  by_cases ha : b.take 8 = APE
  ·have hp := And.intro h8 ha
   rw [if_neg (by simpa [APE] using ha), Ta, Sr]
   by_cases h32 : b.length < 32
   ·rw [if_pos (by rw [Ae, Ac]; simp; omega), fa2 hp h32]
   ·have t := Bk7 (b.take 32) (by simp; omega) (by simp; omega)
    rw [Bcf, Afx (by omega), Afx (by omega)] at t
    rw [if_neg (by rw [Ae, Ac]; simp; omega), Gd (by omega) (by omega), Aa, show (32 : Int).toNat = 32 from rfl, t, Aa]
    cases hb : Ain b with
    | true => rw [fa3 hp h32 hb]; simp
    | false =>
     obtain ⟨i1, i2, i3, i4⟩ := Azc b (by omega) hb
     have i5 : 32 ≤ Eh (part b 12 4) := by simp only [Ain, decide_eq_false_iff_not] at hb; omega
     simp only [Bool.false_eq_true, if_false, false_or, Aa, Bool.not_true]
     rw [Zw, Bhn _ _ _ i3 i4 (by decide), Aa, Aa]
     by_cases c1 : b.take 32 = Ahk (Eh (part b 12 4) - 32) (Eh (part b 16 4)) 2684354560
     ·have c1' : b.take 32 = Ahk (Eh (part b 12 4) - 32) (Eh (part b 16 4)) (2684354560 : UInt64).toNat := c1
      rw [if_neg (by simpa using c1'), Tu, Abw, Ag (by omega) (by omega)]
      have e1 : 64 + ((Eh (part b 12 4) - 32 : Nat) : Int) = ((Eh (part b 12 4) + 32 : Nat) : Int) := by omega
      rw [e1]
      by_cases c2 : b.length < Eh (part b 12 4) + 32
      ·rw [if_pos (by rw [Ae, Ac]; simp; omega), fa5 hp h32 hb c1 c2]
      ·rw [if_neg (by rw [Ae, Ac]; simp; omega), Ce (by omega) (by omega), Ak7 (by omega) (by omega) (by omega), Aa, Aav, if_pos rfl, Bhn _ _ _ i3 i4 (by decide), Aa, Aa]
       rw [show (((Eh (part b 12 4) + 32 : Nat) : Int)).toNat = Eh (part b 12 4) + 32 by omega, show (((Eh (part b 12 4) + 32 : Nat) : Int) - 32).toNat = Eh (part b 12 4) by omega]
       by_cases c3 : (b.take (Eh (part b 12 4) + 32)).drop (Eh (part b 12 4)) = Ahk (Eh (part b 12 4) - 32) (Eh (part b 16 4)) 2147483648
       ·have c3' : (b.take (Eh (part b 12 4) + 32)).drop (Eh (part b 12 4)) = Ahk (Eh (part b 12 4) - 32) (Eh (part b 16 4)) (2147483648 : UInt64).toNat := c3
        rw [if_neg (by simpa using c3'), fa7 hp h32 hb c1 c2 c3]
       ·have c3' : ¬ (b.take (Eh (part b 12 4) + 32)).drop (Eh (part b 12 4)) = Ahk (Eh (part b 12 4) - 32) (Eh (part b 16 4)) (2147483648 : UInt64).toNat := c3
        rw [if_pos (by simpa using c3'), fa6 hp h32 hb c1 c2 c3]
     ·have c1' : ¬ b.take 32 = Ahk (Eh (part b 12 4) - 32) (Eh (part b 16 4)) (2684354560 : UInt64).toNat := c1
      rw [if_pos (by simpa using c1'), fa4 hp h32 c1]
  ·rw [if_pos (by simpa [APE] using ha), fa1 (fun h => ha h.2)]
 ·rw [if_pos (by rw [Ae, Ac]; simp; omega), fa1 (fun h => h8 h.1)]
theorem Bir {b : List UInt8} {n : Int} (h : Nv b = (n, 0)) : 64 ≤ n ∧ n ≤ b.length := by
 unfold Nv at h
 split at h; · simp at h
 split at h; · simp at h
 split at h; · simp at h
 rename_i hb
 split at h; · simp at h
 split at h; · simp at h
 simp only [Prod.mk.injEq, and_true] at h
 have hb' : ¬ Ain b = true := fun e => hb (.inl e)
 simp only [Ain, decide_eq_true_eq] at hb'
 omega
end Go.Pl
set_option linter.unusedVariables false
set_option linter.unusedSimpArgs false
namespace Go.Pl
open Go Go.Lv
def Dx (b : List UInt8) : Int × Int := if (Ah4 b).2 ≠ 6 then Ah4 b else Nv b
theorem size_eq (b : List UInt8) (hl : b.length < 4611686018427387904) : Uz b = some (Dx b) := by
 rw [Uz, Bjv b hl, Aa, Bfa b hl]
 by_cases h : (Ah4 b).2 = 6
 ·simp [Dx, h, Au]
 ·simp [Dx, h, Au]
theorem Awj {b : List UInt8} {n : Int} (h : Dx b = (n, 0)) : 10 ≤ n ∧ n ≤ b.length := by
 unfold Dx at h
 split at h
 ·have := Bm3 h; omega
 ·have := Bir h; omega
def Cq (b : List UInt8) : Nat → Nat → List Int × Int
 | 0, _ => ([], 6)
 | j + 1, p => if (Dx (b.drop p)).2 = 6 then ([], 0) else if (Dx (b.drop p)).2 ≠ 0 then ([], (Dx (b.drop p)).2) else
  if 4000 < (p : Int) + (Dx (b.drop p)).1 then ([], 4) else
  if (Cq b j (p + (Dx (b.drop p)).1.toNat)).2 = 0 then ((Dx (b.drop p)).1 :: (Cq b j (p + (Dx (b.drop p)).1.toNat)).1, 0) else ([], (Cq b j (p + (Dx (b.drop p)).1.toNat)).2)
theorem Arq (b : List UInt8) : ∀ (j p : Nat), p ≤ b.length → p ≤ 4000 → (Cq b j p).2 = 0 → (∀ x ∈ (Cq b j p).1, 10 ≤ x) ∧ (p : Int) + (Cq b j p).1.sum ≤ b.length ∧ (p : Int) + (Cq b j p).1.sum ≤ 4000
 | 0, p, _, _, h => by simp [Cq] at h
 | j + 1, p, hp, hq, h => by
  rw [Cq] at h ⊢
  split at h
  ·rename_i h6; rw [if_pos h6]; simp; omega
  ·rename_i h6
   split at h
   ·rename_i h0; exact absurd h h0
   ·rename_i h0
    rw [if_neg h6, if_neg h0]
    have hz : Dx (b.drop p) = ((Dx (b.drop p)).1, 0) := by rw [Prod.ext_iff]; exact ⟨rfl, Classical.not_not.1 h0⟩
    have hs := Awj hz
    rw [List.length_drop] at hs
    split at h
    ·simp at h
    ·rename_i h4
     rw [if_neg h4]
     split at h
     ·rename_i h00
      rw [if_pos h00]
      obtain ⟨i1, i2, i3⟩ := Arq b j _ (by omega) (by omega) h00
      refine ⟨fun x hx => ?_, ?_, ?_⟩
      ·rcases List.mem_cons.1 hx with rfl | hx
       ·exact hs.1
       ·exact i1 x hx
      ·simp only [List.sum_cons]; omega
      ·simp only [List.sum_cons]; omega
     ·rename_i h00; exact absurd h h00
def Bfo (b : List UInt8) (j p : Nat) : Int × Int := if (Cq b j p).2 = 0 then ((p : Int) + (Cq b j p).1.sum, 0) else (0, (Cq b j p).2)
theorem Avy (b : List UInt8) (hl : b.length < 4611686018427387904) : ∀ (j p q : Nat), p ≤ b.length → p ≤ 4000 → b.length - p < j → j ≤ q → Sg b q (p : Int) = some (Bfo b j p)
 | 0, p, q, _, _, h, _ => by omega
 | j + 1, p, q, hp, hp4, hj, hq => by
  obtain ⟨q, rfl⟩ : ∃ k, q = k + 1 := ⟨q - 1, by omega⟩
  rw [Sg, Jm (by omega) (by omega), Aa, Int.toNat_natCast, size_eq _ (by simp; omega), Aa, Be, Be, Au, Bfo]
  by_cases h6 : (Dx (b.drop p)).2 = 6
  ·rw [if_pos (by simpa using h6)]
   have : Cq b (j + 1) p = ([], 0) := by rw [Cq, if_pos h6]
   rw [this]; simp
  ·rw [if_neg (by simpa using h6)]
   by_cases h0 : (Dx (b.drop p)).2 = 0
   ·have hz : Dx (b.drop p) = ((Dx (b.drop p)).1, 0) := by rw [Prod.ext_iff]; exact ⟨rfl, h0⟩
    have hs := Awj hz
    rw [List.length_drop] at hs
    rw [Ag (by omega) (by omega), Bb]
    by_cases h4 : 4000 < (p : Int) + (Dx (b.drop p)).1
    ·rw [if_pos (by simp [h0]; omega)]
     have : Cq b (j + 1) p = ([], 4) := by rw [Cq, if_neg h6, if_neg (fun h => h h0), if_pos h4]
     rw [this]; simp
    ·rw [if_neg (by simp [h0]; omega), if_neg (by simpa using h0)]
     have ih := Avy b hl j (p + (Dx (b.drop p)).1.toNat) q (by omega) (by omega) (by omega) (by omega)
     rw [show (p : Int) + (Dx (b.drop p)).1 = ((p + (Dx (b.drop p)).1.toNat : Nat) : Int) by omega, ih, Bfo]
     have : Cq b (j + 1) p = if (Cq b j (p + (Dx (b.drop p)).1.toNat)).2 = 0 then ((Dx (b.drop p)).1 :: (Cq b j (p + (Dx (b.drop p)).1.toNat)).1, 0) else ([], (Cq b j (p + (Dx (b.drop p)).1.toNat)).2) := by
      rw [Cq, if_neg h6, if_neg (fun h => h h0), if_neg h4]
     rw [this]
     by_cases hr : (Cq b j (p + (Dx (b.drop p)).1.toNat)).2 = 0
     ·simp only [hr, if_true, List.sum_cons]; congr 2; omega
     ·simp only [hr, if_false]
   ·rw [if_neg (by simp [h0]), if_pos (by simpa using h0)]
    have : Cq b (j + 1) p = ([], (Dx (b.drop p)).2) := by rw [Cq, if_neg h6, if_pos h0]
    rw [this]; simp [h0]
def Bl4 (b : List UInt8) (j p : Nat) (xs : List Int) : List Int × Int := if (Cq b j p).2 = 0 then (xs ++ (Cq b j p).1, 0) else ([], (Cq b j p).2)
theorem Bku (bk : Int → List Int → Option (List Int × Int)) (b : List UInt8) (p : Nat) (hp : p ≤ b.length) (xs : List Int) (hx : xs.length ≤ 4000) (hl : b.length < 4611686018427387904) : Mf (If bk b) b (p : Int) xs = If bk b (p : Int) xs (Dx (b.drop p)).1 (Dx (b.drop p)).2 := by
 have hf := Bhy (b.drop p) (by simp; omega)
 rw [Mf, Jm (by omega) (by omega), Aa, Int.toNat_natCast, Blo _ (by simp; omega), Aa]
 by_cases h : (Ah4 (b.drop p)).2 = 6
 ·simp [Dx, h, Be, hf]
 ·simp [Dx, h, Be]
theorem Ay0 (b : List UInt8) (hl : b.length < 4611686018427387904) : ∀ (j p q : Nat) (xs : List Int), p ≤ b.length → p ≤ 4000 → b.length - p < j → j ≤ q → xs.length ≤ p → Ib b q (p : Int) xs = some (Bl4 b j p xs)
 | 0, p, q, _, _, _, h, _, _ => by omega
 | j + 1, p, q, xs, hp, hp4, hj, hq, hx => by
  obtain ⟨q, rfl⟩ : ∃ k, q = k + 1 := ⟨q - 1, by omega⟩
  rw [Ib, Bku _ b p hp xs (by omega) hl, If, Ab7, Be, Au, Bl4]
  by_cases h6 : (Dx (b.drop p)).2 = 6
  ·rw [if_pos (by simpa using h6)]
   have : Cq b (j + 1) p = ([], 0) := by rw [Cq, if_pos h6]
   rw [this]; simp
  ·rw [if_neg (by simpa using h6)]
   by_cases h0 : (Dx (b.drop p)).2 = 0
   ·have hz : Dx (b.drop p) = ((Dx (b.drop p)).1, 0) := by rw [Prod.ext_iff]; exact ⟨rfl, h0⟩
    have hs := Awj hz
    rw [List.length_drop] at hs
    rw [if_neg (by simpa using h0), Ag (by omega) (by omega), Bb]
    by_cases h4 : 4000 < (p : Int) + (Dx (b.drop p)).1
    ·rw [if_pos (by simp; omega)]
     have : Cq b (j + 1) p = ([], 4) := by rw [Cq, if_neg h6, if_neg (fun h => h h0), if_pos h4]
     rw [this]; simp
    ·rw [if_neg (by simp; omega), Fc (by simp; omega), Aa]
     have ih := Ay0 b hl j (p + (Dx (b.drop p)).1.toNat) q (xs ++ [(Dx (b.drop p)).1]) (by omega) (by omega) (by omega) (by omega) (by simp; omega)
     rw [show (p : Int) + (Dx (b.drop p)).1 = ((p + (Dx (b.drop p)).1.toNat : Nat) : Int) by omega, ih, Bl4]
     have : Cq b (j + 1) p = if (Cq b j (p + (Dx (b.drop p)).1.toNat)).2 = 0 then ((Dx (b.drop p)).1 :: (Cq b j (p + (Dx (b.drop p)).1.toNat)).1, 0) else ([], (Cq b j (p + (Dx (b.drop p)).1.toNat)).2) := by
      rw [Cq, if_neg h6, if_neg (fun h => h h0), if_neg h4]
     rw [this]
     by_cases hr : (Cq b j (p + (Dx (b.drop p)).1.toNat)).2 = 0
     ·simp only [hr, if_true]; simp
     ·simp only [hr, if_false]
   ·rw [if_pos (by simpa using h0)]
    have : Cq b (j + 1) p = ([], (Dx (b.drop p)).2) := by rw [Cq, if_neg h6, if_pos h0]
    rw [this]; simp [h0]
theorem Att : ∀ {l : List Int}, (∀ x ∈ l, 10 ≤ x) → 0 ≤ l.sum ∧ (l.length : Int) ≤ l.sum
 | [], _ => by simp
 | x :: l, h => by
  have h1 := h x List.mem_cons_self
  have h2 := Att (l := l) fun y hy => h y (List.mem_cons_of_mem _ hy)
  simp only [List.sum_cons, List.length_cons]; omega
theorem Ava (r : Int) (l : List Int) (hl : l.length ≤ 4000) (hx : ∀ x ∈ l, 10 ≤ x) : ∀ (j i q : Nat) (n : Int), i + j = l.length → j < q → 0 ≤ n → n + (l.drop i).sum ≤ 4000 → Fs r l q n (i : Int) = some (n + (l.drop i).sum, r)
 | 0, i, q + 1, n, hi, _, _, _ => by
  rw [Fs, Lr, if_neg (by rw [Ae, Ac]; simp; omega), show i = l.length by omega, List.drop_length]
  simp [Tp, Ace]
 | j + 1, i, q + 1, n, hi, hq, hn, hs => by
  have hlt : i < l.length := by omega
  rw [drop_cons hlt, List.sum_cons] at hs ⊢
  have h1 := hx l[i] (List.getElem_mem hlt)
  have h2 := Att (l := l.drop (i + 1)) fun y hy => hx y (List.mem_of_mem_drop hy)
  rw [Fs, Lr, if_pos (by rw [Ae, Ac]; simp; omega), Dk hlt, Aa, Aa, Ag (by omega) (by omega), Ag (by omega) (by omega)]
  have ih := Ava r l hl hx j (i + 1) q (n + l[i]) (by omega) (by omega) (by omega) (by omega)
  rw [show ((i : Int) + 1) = ((i + 1 : Nat) : Int) by omega, ih]
  congr 2; omega
def Ki (b : List UInt8) : Int × Int := Bfo b (b.length + 1) 0
theorem Aw2 (b : List UInt8) (hl : b.length < 4611686018427387904) : Qm b = some (Ki b) := by
 have := Avy b hl (b.length + 1) 0 Bc (by omega) (by omega) (by omega) (by have := Ay; omega)
 exact this
theorem Azj (b : List UInt8) (hl : b.length < 4611686018427387904) : Qr b = some (Ki b) := by
 have h := Ay0 b hl (b.length + 1) 0 Bc [] (by omega) (by omega) (by omega) (by have := Ay; omega) (by simp)
 have h' : Yh b = some (Bl4 b (b.length + 1) 0 []) := h
 rw [Qr, Tt, h', Aa, Ki, Bfo, Bl4]
 have ho := Arq b (b.length + 1) 0 (by omega) (by omega)
 by_cases h0 : (Cq b (b.length + 1) 0).2 = 0
 ·obtain ⟨i1, i2, i3⟩ := ho h0
  have hp := Att i1
  simp only [h0, if_true, List.nil_append]
  have := Ava 0 (Cq b (b.length + 1) 0).1 (by omega) i1 (Cq b (b.length + 1) 0).1.length 0 Bc 0 (by omega) (by have := Ay; omega) (by omega) (by simpa using i3)
  simpa [Lq] using this
 ·simp only [h0, if_false]
  have := Ava (Cq b (b.length + 1) 0).2 [] (by simp) (by simp) 0 0 Bc 0 (by simp) (by have := Ay; omega) (by omega) (by simp)
  simpa [Lq] using this
theorem Ayn {b : List UInt8} (h : (Ki b).2 = 0) : 0 ≤ (Ki b).1 ∧ (Ki b).1 ≤ b.length ∧ (Ki b).1 ≤ 4000 := by
 unfold Ki Bfo at h ⊢
 split at h
 ·rename_i h0
  rw [if_pos h0]
  obtain ⟨i1, i2, i3⟩ := Arq b (b.length + 1) 0 (by omega) (by omega) h0
  have hp := Att i1
  exact ⟨by simp; omega, i2, i3⟩
 ·rename_i h0; exact absurd h h0
end Go.Pl
set_option linter.unusedVariables false
set_option linter.unusedSimpArgs false
namespace Go.Pl
open Go Go.Lv
def longN (r : Nat) : Nat := max 1 (256 * r / 245)
theorem Ajc (r : Nat) : 1 ≤ longN r := Nat.le_max_left _ _
theorem Awd {r : Nat} (h : r ≤ 1048576) : longN r ≤ 1100000 := by unfold longN; omega
theorem Bcj {r : Nat} (h : r ≤ 1048576) : Aoc (1 : Int) (Cw (Bo (256 : Int) (r : Int)) (245 : Int)) = (longN r : Int) := by
 rw [Hs (by omega) (by omega), Aer, Int.tdiv_eq_ediv_of_nonneg (by omega), By (by omega) (by omega), Bew, longN]; omega
def framesL (g n : Nat) : List Int := List.replicate ((n - 1) / g) (g : Int) ++ [((n - (n - 1) / g * g : Nat) : Int)]
theorem As5 (g n : Nat) : (framesL g n).length = (n - 1) / g + 1 := by simp [framesL]
theorem Axe {g n : Nat} (h : n ≤ g) (h1 : 1 ≤ n) : framesL g n = [(n : Int)] := by
 rw [framesL, Nat.div_eq_of_lt (by omega)]; simp
theorem Bb4 {g n : Nat} (hg : 1 ≤ g) (h : g < n) : framesL g n = (g : Int) :: framesL g (n - g) := by
 have e : (n - 1) / g = (n - g - 1) / g + 1 := by rw [← Nat.add_div_right _ (by omega)]; congr 1; omega
 rw [framesL, framesL, e, List.replicate_succ, List.cons_append]
 congr 4
 have := Nat.div_mul_le_self (n - g - 1) g
 rw [Nat.add_mul, Nat.one_mul]; omega
theorem Aq3 {g n : Nat} (hg : 1 ≤ g) (h1 : 1 ≤ n) : (n + g - 1) / g = (n - 1) / g + 1 := by
 rw [← Nat.add_div_right _ (by omega)]; congr 1; omega
theorem Ax4 {r : Nat} (h1 : 1 ≤ r) (h : r ≤ 1048576) : Zz (r : Int) = some ((longN r : Int), 0) := by
 rw [Zz, if_neg (by simp [Ae, Bb]; omega), Bcj h]
theorem Blp {r : Nat} (h : r ≤ 1048576) : Nm (r : Int) = some (longN r : Int) := by rw [Nm, Bcj h]
theorem At7 {r n : Nat} (h1 : 1 ≤ r) (h : r ≤ 1048576) (n1 : 1 ≤ n) (n2 : n ≤ 4000) : Xr (r : Int) (n : Int) = some (if 1000 < (n - 1) / longN r + 1 then (0, 4) else ((((n - 1) / longN r + 1 : Nat) : Int), 0)) := by
 have hp := Ajc r
 have hl := Awd h
 have e : Cw (Ao (Af (n : Int) (longN r : Int)) (1 : Int)) (longN r : Int) = (((n - 1) / longN r + 1 : Nat) : Int) := by
  have : (n + longN r - 1) / longN r ≤ n + longN r - 1 := Nat.div_le_self _ _
  rw [Ag (by omega) (by omega), Ce (by omega) (by omega), Aer, Int.tdiv_eq_ediv_of_nonneg (by omega), show (n : Int) + (longN r : Int) - 1 = ((n + longN r - 1 : Nat) : Int) by omega, ← Int.natCast_ediv, Aq3 hp n1]
  rw [Aq3 hp n1] at this
  generalize (n - 1) / longN r = k at *
  exact By (by omega) (by omega)
 rw [Xr, Ax4 h1 h, Aa]
 simp only
 rw [if_neg (by rw [Au]; simp), if_neg (by simp [Ae, Bb]; omega), Cu (by rw [Au]; simp; omega), Aa, e]
 by_cases hk : 1000 < (n - 1) / longN r + 1
 ·rw [if_pos (by rw [Bb]; simp; omega), if_pos hk]
 ·rw [if_neg (by rw [Bb]; simp; omega), if_neg hk]
theorem Aub {r : Nat} (h : r ≤ 1048576) : ∀ (j n q : Nat) (acc : List Int), n ≤ 4000 → n ≤ j → j < q → acc.length + n ≤ 10000 → Dd (r : Int) q (n : Int) acc = some (acc ++ (if n = 0 then [] else framesL (longN r) n))
 | 0, n, q + 1, acc, hn, hj, hq, ha => by
  obtain rfl : n = 0 := by omega
  rw [Dd, Fq, if_neg (by rw [Bb]; simp)]
  simp [Hx, Lt]
 | j + 1, n, q + 1, acc, hn, hj, hq, ha => by
  have hp := Ajc r
  have hl := Awd h
  by_cases h0 : n = 0
  ·subst h0
   rw [Dd, Fq, if_neg (by rw [Bb]; simp)]
   simp [Hx, Lt]
  ·rw [Dd, Fq, if_pos (by rw [Bb]; simp; omega), Blp h, Aa, Fc (by simp; omega), Aa, Aa, Ce (by omega) (by omega), Ai5]
   by_cases hs : n ≤ longN r
   ·rw [show min (n : Int) (longN r : Int) = (n : Int) by omega, if_neg h0, Axe hs (by omega)]
    have hz : ∃ k, q = k + 1 := ⟨q - 1, by omega⟩
    obtain ⟨q, rfl⟩ := hz
    rw [Dd, Fq, if_neg (by rw [Bb]; simp; omega)]
    simp [Hx, Lt]
   ·rw [show min (n : Int) (longN r : Int) = (longN r : Int) by omega, show (n : Int) - (longN r : Int) = ((n - longN r : Nat) : Int) by omega, Aub h j (n - longN r) q _ (by omega) (by omega) (by omega) (by simp; omega), if_neg (by omega), if_neg h0, Bb4 hp (show longN r < n by omega)]
    simp
theorem Av9 {r n : Nat} (h : r ≤ 1048576) (n1 : 1 ≤ n) (n2 : n ≤ 4000) : Im (r : Int) (n : Int) = some (framesL (longN r) n) := by
 have := Aub h n n Bc [] n2 (Nat.le_refl _) (by have := Ay; omega) (by simp; omega)
 rw [Im, Tw, Tk, this, if_neg (by omega)]; rfl
theorem mul_one (m : Nat) (h : m ≤ 100000) : Ac0 (1 : UInt64) (UInt64.ofNat m) = some (0, UInt64.ofNat m) := by
 have y1 : (UInt64.ofNat m).toNat = m := Ahp (by omega)
 have s1 : Cr (1 : UInt64) (GI.toZ (32 : UInt64)).toNat = 0 := by decide
 have s2 : Cr (UInt64.ofNat m) (GI.toZ (32 : UInt64)).toNat = 0 := by
  apply UInt64.toNat_inj.1
  rw [Ad4, y1]
  exact Nat.div_eq_of_lt (Nat.lt_of_le_of_lt h (by decide))
 have s0 : Cr (0 : UInt64) (GI.toZ (32 : UInt64)).toNat = 0 := by decide
 have a1 : Ik (1 : UInt64) (4294967295 : UInt64) = 1 := by decide
 have a0 : Ik (0 : UInt64) (4294967295 : UInt64) = 0 := by decide
 have a2 : Ik (UInt64.ofNat m) (4294967295 : UInt64) = UInt64.ofNat m := by
  apply UInt64.toNat_inj.1
  rw [At6, UInt64.toNat_and, y1]
  show m &&& (2 ^ 32 - 1) = m
  rw [Nat.and_two_pow_sub_one_eq_mod, Nat.mod_eq_of_lt (by omega)]
 have m1 : ∀ x : UInt64, Bo 1 x = x := fun x => by rw [Adf, UInt64.one_mul]
 have m0 : ∀ x : UInt64, Bo 0 x = 0 := fun x => by rw [Adf, UInt64.zero_mul]
 have p0 : ∀ x : UInt64, Af 0 x = x := fun x => by rw [Ad1, UInt64.zero_add]
 have p1 : ∀ x : UInt64, Af x 0 = x := fun x => by rw [Ad1, UInt64.add_zero]
 rw [Ac0, Aej]
 simp only [s1, s2, a1, a2, m1, m0, p0, p1, s0, a0, Aa]
theorem As0 (v : Int) (m : Nat) (hm : m ≤ 100000) : ∀ (j n q : Nat), 1 ≤ n → n ≤ m → m - n ≤ j → j < q → Dw q (n : Int) (List.replicate n v ++ List.replicate (m - n) 0) = some (List.replicate m v)
 | j, n, q + 1, hn, hnm, hj, hq => by
  have hlen : Ac (List.replicate n v ++ List.replicate (m - n) 0) = (m : Int) := by simp [Ac]; omega
  rw [Dw, Fu, hlen]
  by_cases h : n < m
  ·obtain ⟨j, rfl⟩ : ∃ k, j = k + 1 := ⟨j - 1, by omega⟩
   rw [if_pos (by rw [Ae]; simp; omega)]
   have v1 : vwI (m : Int) (n : Int) (m : Int) = some () := by rw [vwI, Cu]; simp; omega
   have v2 : vwI (m : Int) (0 : Int) (n : Int) = some () := by rw [vwI, Cu]; simp; omega
   have e1 : Ajb (List.replicate n v ++ List.replicate (m - n) 0) (0 : Int) ((n : Int) - 0) = List.replicate n v := by
    simp [Ajb]
   rw [v1, Aa, v2, Aa, e1]
   have e2 : Agx ((m : Int) - (n : Int)) (List.replicate n v).length = ((min n (m - n) : Nat) : Int) := by
    rw [Agx, List.length_replicate]; split <;> omega
   have e3 : Tq (List.replicate n v ++ List.replicate (m - n) 0) (n : Int) ((m : Int) - (n : Int)) (List.replicate n v) = List.replicate (n + min n (m - n)) v ++ List.replicate (m - (n + min n (m - n))) 0 := by
    have t1 : ((m : Int) - (n : Int)).toNat = m - n := by omega
    have t2 : (List.replicate n v ++ List.replicate (m - n) (0 : Int)).take n = List.replicate n v := by simp
    rw [Tq, t1, Int.toNat_natCast, t2, List.take_replicate, List.length_replicate, ← List.append_assoc, List.replicate_append_replicate, List.drop_append, List.length_replicate, Nat.min_comm (m - n) n]
    simp only [List.drop_replicate]
    rw [show n - (n + min n (m - n)) = 0 by omega, List.replicate_zero, List.nil_append, show m - n - (n + min n (m - n) - n) = m - (n + min n (m - n)) by omega]
   rw [e2, e3, Ag (by omega) (by omega), show (n : Int) + ((min n (m - n) : Nat) : Int) = ((n + min n (m - n) : Nat) : Int) by omega]
   exact As0 v m hm j (n + min n (m - n)) q (by omega) (by omega) (by omega) (by omega)
  ·rw [if_neg (by rw [Ae]; simp; omega)]
   obtain rfl : n = m := by omega
   simp [Hv, Mm]
theorem Bjs (v : Int) (m : Nat) (hm : m ≤ 100000) : Ma [v] (m : Int) = some (List.replicate m v) := by
 have y1 : (UInt64.ofNat m).toNat = m := Ahp (by omega)
 have c1 : (Ad (Ac [v]) : UInt64) = 1 := by rfl
 have c2 : (Ad (m : Int) : UInt64) = UInt64.ofNat m := Zo m
 have c3 : (Ad (UInt64.ofNat m) : Int) = (m : Int) := by rw [Ard (by omega), y1]
 rw [Ma, Nt, if_neg (by rw [Ae]; simp), Nx, Nz, c1, c2, mul_one m hm, Aa]
 simp only
 rw [if_neg (by rw [Ah5, Ah5, y1]; simp; show m ≤ 9223372036854775807; omega), Oc, Nw, c3, Awn (by omega) (by omega), Aa, Cu (by rw [Be]; simp), Aa, Of, Int.toNat_natCast]
 by_cases h0 : m = 0
 ·subst h0
  have hF : Bc = (Bc - 1) + 1 := by have := Ay; omega
  rw [hF, Dw, Fu]
  simp [Ac, Av4, Agx, Ae, Hv, Mm]
 ·have := As0 v m hm m 1 Bc (by omega) (by omega) (by omega) (by have := Ay; omega)
  have e1 : Agx (Ac (List.replicate m (0 : Int))) [v].length = ((1 : Nat) : Int) := by simp [Agx, Ac]; omega
  have e2 : Av4 (List.replicate m (0 : Int)) [v] = List.replicate 1 v ++ List.replicate (m - 1) 0 := by
   obtain ⟨k, rfl⟩ : ∃ k, m = k + 1 := ⟨m - 1, by omega⟩
   simp [Av4]
  rw [e1, e2, this]
theorem Bjk (l m : List Int) (h : l.length + m.length ≤ 1000000) : Lz [l, m] = some (l ++ m) := by
 have hF : Bc = (Bc - 3) + 1 + 1 + 1 := by have := Ay; omega
 rw [Lz, Oh, Om]
 have g0 : Aj [l, m] (0 : Int) = some l := rfl
 have g1 : Aj [l, m] (1 : Int) = some m := rfl
 have l2 : Ac [l, m] = 2 := rfl
 have h3 : Hu [l, m] [] = some (l ++ m) := by
  rw [Hu, Ml, Mg, hF, Dq, Fa, l2, if_pos (by decide), g0, Aa, Fc (by simp; omega), Aa, List.nil_append, show Af (0 : Int) 1 = 1 by decide,
   Dq, Fa, l2, if_pos (by decide), g1, Aa, Fc (by omega), Aa, show Af (1 : Int) 1 = 2 by decide, Dq, Fa, l2, if_neg (by decide)]
  rfl
 rw [hF, Dv, Fy, l2, if_pos (by decide), g0, Aa, Ag (by unfold Ac; omega) (by unfold Ac; omega), if_neg (by rw [Ae, Ac]; simp), show Af (0 : Int) 1 = 1 by decide,
  Dv, Fy, l2, if_pos (by decide), g1, Aa, Ag (by unfold Ac; omega) (by unfold Ac; omega), if_neg (by rw [Ae, Ac, Ac]; simp; omega), show Af (1 : Int) 1 = 2 by decide,
  Dv, Fy, l2, if_neg (by decide), Mo, Mj, if_neg (by rw [Ae, Ac, Ac]; simp; omega), Mk, Mp]
 have z : Ao (0 : Int) 0 = 0 := by decide
 have n0 : (0 : Int) + Ac l + Ac m = ((l.length + m.length : Nat) : Int) := by simp [Ac]
 rw [z, n0, Ce (by omega) (by omega), Int.sub_zero]
 by_cases hp : 0 < l.length + m.length
 ·rw [if_pos (by rw [Bb]; simp; omega), show vwI (0 : Int) 0 0 = some () from rfl, Aa, Awn (by omega) (by omega), Aa, Fc (by simp; omega), Aa]
  rw [show vwI (Ac ([] ++ List.replicate ((l.length + m.length : Nat) : Int).toNat (0 : Int))) 0 0 = some () by rw [vwI, Cu]; simp [Ac]; omega, Aa]
  simp only [Ajb, Int.sub_self, Int.toNat_zero, List.take_zero]
  exact h3
 ·rw [if_neg (by rw [Bb]; simp; omega)]; exact h3
theorem Bmo {r n : Nat} (h1 : 1 ≤ r) (h : r ≤ 1048576) (n1 : 1 ≤ n) (n2 : n ≤ 4000) (hk : (n - 1) / longN r + 1 ≤ 1000) : Aht (r : Int) (n : Int) = some (framesL (longN r) n, 0) := by
 have hp := Ajc r
 have hl := Awd h
 have hd := Nat.div_mul_le_self (n - 1) (longN r)
 rw [Aht, At7 h1 h n1 n2, if_neg (by omega), Aa]
 simp only
 rw [if_neg (by rw [Au]; simp), Ax4 h1 h, Aa]
 simp only
 rw [framesL]
 generalize (n - 1) / longN r = k at *
 have e1 : Ao ((k + 1 : Nat) : Int) 1 = (k : Int) := by rw [Ce (by omega) (by omega)]; omega
 have e2 : (k : Int) * (longN r : Int) = ((k * longN r : Nat) : Int) := by simp
 rw [e1, Bjs _ _ (by omega), Aa, Hs (by rw [e2]; omega) (by rw [e2]; omega), e2, Ce (by omega) (by omega), Agu, Bjk _ _ (by simp; omega), Aa, Aa, show (n : Int) - ((k * longN r : Nat) : Int) = ((n - k * longN r : Nat) : Int) by omega]
end Go.Pl
set_option linter.unusedVariables false
set_option linter.unusedSimpArgs false
namespace Go.Pl
open Go Go.Lv
def shapeB (f c w r n : Nat) : Bool := decide ((f = 1 ∨ f = 2) ∧ (1 ≤ c ∧ c ≤ 6) ∧ (w = 8 ∨ w = 16 ∨ w = 24) ∧ (1 ≤ r ∧ r ≤ 1048576) ∧ 1 ≤ n)
def fitB (c r n : Nat) : Bool := decide (n ≤ 4000 / c ∧ (n - 1) / longN r + 1 ≤ 1000)
theorem Amu (f c w r n : Nat) : Nu (f : Int) (c : Int) (w : Int) (r : Int) (n : Int) = some (shapeB f c w r n) := by
 have e2 : Kv (f : Int) (c : Int) (w : Int) (r : Int) (n : Int) = some (decide ((f = 1 ∨ f = 2) ∧ (1 ≤ c ∧ c ≤ 6) ∧ (1 ≤ r ∧ r ≤ 1048576) ∧ 1 ≤ n)) := by
  rw [Kv, Acg]
  congr 1
  rw [Bool.eq_iff_iff]
  simp only [Be, Bb, Aln, Bool.and_eq_true, Bool.or_eq_true, beq_iff_eq, decide_eq_true_eq]
  omega
 have g : ∀ k : Nat, geq (w : Int) (k : Int) = decide (w = k) := fun k => by rw [Be, Bool.eq_iff_iff]; simp; omega
 have g8 : geq (w : Int) (8 : Int) = decide (w = 8) := g 8
 have g16 : geq (w : Int) (16 : Int) = decide (w = 16) := g 16
 have g24 : geq (w : Int) (24 : Int) = decide (w = 24) := g 24
 rw [Nu, Wh, e2, g8, g16, g24, shapeB]
 by_cases h8 : w = 8
 ·subst h8; simp
 ·by_cases h16 : w = 16
  ·subst h16; simp
  ·by_cases h24 : w = 24
   ·subst h24; simp
   ·simp [h8, h16, h24]
theorem Ao2 (f c w r n : Nat) : Fb (f : Int) (c : Int) (w : Int) (r : Int) (n : Int) = some (shapeB f c w r n) := by
 rw [Fb, shapeB]
 simp only [Be, Dt, Aln, Bool.and_eq_true, Bool.or_eq_true, beq_iff_eq, decide_eq_true_eq, Bool.false_and]
 split
 ·rename_i h
  congr 1
  rw [Bool.eq_iff_iff]
  simp only [Bool.and_eq_true, Bool.or_eq_true, beq_iff_eq, decide_eq_true_eq]
  omega
 ·rename_i h
  congr 1
  symm
  rw [decide_eq_false_iff_not]
  omega
theorem Bqe {c : Nat} (h : 1 ≤ c) : Cw (4000 : Int) (c : Int) = ((4000 / c : Nat) : Int) := by
 have : 4000 / c ≤ 4000 := Nat.div_le_self _ _
 rw [Aer, Int.tdiv_eq_ediv_of_nonneg (by omega), show (4000 : Int) = ((4000 : Nat) : Int) from rfl, ← Int.natCast_ediv]
 generalize 4000 / c = k at *
 exact By (by omega) (by omega)
theorem Arj {f c w r n : Nat} (h : shapeB f c w r n = true) : Aee (f : Int) (c : Int) (w : Int) (r : Int) (n : Int) = some (fitB c r n) := by
 simp only [shapeB, decide_eq_true_eq] at h
 have hd : 4000 / c ≤ 4000 := Nat.div_le_self _ _
 rw [Aee, Cu (by rw [Au]; simp; omega), Aa, Bqe (by omega), fitB]
 generalize 4000 / c = m at *
 by_cases h1 : n ≤ m
 ·rw [if_neg (by rw [Bb]; simp; omega), At7 (by omega) (by omega) (by omega) (by omega), Aa]
  generalize (n - 1) / longN r + 1 = k
  by_cases h2 : 1000 < k
  ·rw [if_pos h2]
   simp [Be, Aln]
   omega
  ·rw [if_neg h2]
   simp [Be, Aln, h1]
   omega
 ·rw [if_pos (by rw [Bb]; simp; omega)]
  simp [h1]
theorem Avl {f c w r n : Nat} (h : shapeB f c w r n = true) : Ha (f : Int) (c : Int) (w : Int) (r : Int) (n : Int) = some (!fitB c r n) := by
 simp only [shapeB, decide_eq_true_eq] at h
 have hd : 4000 / c ≤ 4000 := Nat.div_le_self _ _
 rw [Ha, Cu (by rw [Au]; simp; omega), Aa, Bqe (by omega), fitB]
 generalize 4000 / c = m at *
 by_cases h1 : n ≤ m
 ·rw [if_neg (by rw [Bb]; simp; omega), Av9 (by omega) (by omega) (by omega), Aa, Ac, As5]
  generalize (n - 1) / longN r + 1 = k
  congr 1
  rw [Bb, Bool.eq_iff_iff]
  simp only [decide_eq_true_eq, Bool.not_eq_true', decide_eq_false_iff_not]
  omega
 ·rw [if_pos (by rw [Bb]; simp; omega)]
  simp [h1]
def Asc : List UInt8 := [84, 84, 65, 49]
def f0 (b : List UInt8) : Nat := Eh (part b 4 2)
def f1 (b : List UInt8) : Nat := Eh (part b 6 2)
def f2 (b : List UInt8) : Nat := Eh (part b 8 2)
def f3 (b : List UInt8) : Nat := Eh (part b 10 4)
def f4 (b : List UInt8) : Nat := Eh (part b 14 4)
abbrev H6 := Int × Int × Int × Int × Int × Int
def Lf (b : List UInt8) : H6 :=
 if b.take (min 4 b.length) ≠ Asc.take (min 4 b.length) then (0, 0, 0, 0, 0, 12) else if b.length < 22 then (0, 0, 0, 0, 0, 24) else
 if (Hc (b.take 18)).toNat ≠ Eh (part b 18 4) then (0, 0, 0, 0, 0, 22) else
 if shapeB (f0 b) (f1 b) (f2 b) (f3 b) (f4 b) = false then (0, 0, 0, 0, 0, 12) else
 if fitB (f1 b) (f3 b) (f4 b) = false then (0, 0, 0, 0, 0, 4) else ((f0 b : Int), (f1 b : Int), (f2 b : Int), (f3 b : Int), (f4 b : Int), 0)
section
variable {b : List UInt8}
theorem rs1 (h : b.take (min 4 b.length) ≠ Asc.take (min 4 b.length)) : Lf b = (0, 0, 0, 0, 0, 12) := by rw [Lf, if_pos h]
variable (h : b.take (min 4 b.length) = Asc.take (min 4 b.length))
include h
theorem rs2 (h2 : b.length < 22) : Lf b = (0, 0, 0, 0, 0, 24) := by rw [Lf, if_neg (fun e => e h), if_pos h2]
variable (h2 : ¬ b.length < 22)
include h2
theorem rs3 (h3 : (Hc (b.take 18)).toNat ≠ Eh (part b 18 4)) : Lf b = (0, 0, 0, 0, 0, 22) := by rw [Lf, if_neg (fun e => e h), if_neg h2, if_pos h3]
variable (h3 : (Hc (b.take 18)).toNat = Eh (part b 18 4))
include h3
theorem rs4 (h4 : shapeB (f0 b) (f1 b) (f2 b) (f3 b) (f4 b) = false) : Lf b = (0, 0, 0, 0, 0, 12) := by rw [Lf, if_neg (fun e => e h), if_neg h2, if_neg (fun e => e h3), if_pos h4]
variable (h4 : shapeB (f0 b) (f1 b) (f2 b) (f3 b) (f4 b) = true)
include h4
theorem rs5 (h5 : fitB (f1 b) (f3 b) (f4 b) = false) : Lf b = (0, 0, 0, 0, 0, 4) := by rw [Lf, if_neg (fun e => e h), if_neg h2, if_neg (fun e => e h3), if_neg (by rw [h4]; simp), if_pos h5]
theorem rs6 (h5 : fitB (f1 b) (f3 b) (f4 b) = true) : Lf b = ((f0 b : Int), (f1 b : Int), (f2 b : Int), (f3 b : Int), (f4 b : Int), 0) := by rw [Lf, if_neg (fun e => e h), if_neg h2, if_neg (fun e => e h3), if_neg (by rw [h4]; simp), if_neg (by rw [h5]; simp)]
end
theorem Bm2 (b : List UInt8) (h2 : ¬ b.length < 22) : Cm (Ad (Hc (b.take 18)) : UInt64) (leU (part b 18 4)) = decide ((Hc (b.take 18)).toNat ≠ Eh (part b 18 4)) := by
 rw [Afp, Hr, Bool.eq_iff_iff]
 simp only [bne_iff_ne, ne_eq, decide_eq_true_eq]
 rw [← UInt64.toNat_inj, Ahp (by have := (Hc (b.take 18)).toNat_lt; omega), Ahy (by rw [Db (by omega)]; omega)]
theorem Amy (b : List UInt8) (a w : Nat) (i q : Nat) (l : List Int) (hi : i < 5) (hl : l.length = 5) (hw : Aj ([2, 2, 2, 4, 4] : List Int) (i : Int) = some (w : Int)) (h1 : 1 ≤ w) (h4 : w ≤ 4) (ha : a + w ≤ b.length) (hb : b.length < 4611686018427387904) :
  Li b (q + 1) (a : Int) (i : Int) l = Li b q ((a + w : Nat) : Int) ((i + 1 : Nat) : Int) (l.set i (Eh (part b a w) : Int)) := by
 rw [Li, Aag, if_pos (by rw [Ae]; simp; omega), hw, Aa, Axv b a w h1 (by omega) ha hb, Aa]
 simp only
 rw [Dk (by omega), Aa, Wu _ (by omega), Aa, Acy (by rw [Db ha]; omega), Ag (by omega) (by omega), Ag (by omega) (by omega)]
 rfl
theorem Bld (b : List UInt8) (h22 : ¬ b.length < 22) (hb : b.length < 4611686018427387904) : Abd b 4 0 (List.replicate 5 0) = Abj [(f0 b : Int), (f1 b : Int), (f2 b : Int), (f3 b : Int), (f4 b : Int)] := by
 have hF : Bc = (Bc - 6) + 1 + 1 + 1 + 1 + 1 + 1 := by have := Ay; omega
 rw [Abd, hF, show (4 : Int) = ((4 : Nat) : Int) from rfl, show (0 : Int) = ((0 : Nat) : Int) from rfl]
 rw [Amy b 4 2 0 _ _ (by omega) (by simp) rfl (by omega) (by omega) (by omega) hb, Amy b 6 2 1 _ _ (by omega) (by simp) rfl (by omega) (by omega) (by omega) hb, Amy b 8 2 2 _ _ (by omega) (by simp) rfl (by omega) (by omega) (by omega) hb,
  Amy b 10 4 3 _ _ (by omega) (by simp) rfl (by omega) (by omega) (by omega) hb, Amy b 14 4 4 _ _ (by omega) (by simp) rfl (by omega) (by omega) (by omega) hb, Li, Aag, if_neg (by rw [Ae]; simp)]
 rfl
theorem Bto (b : List UInt8) : Hb [84, 84, 65, 49] (b.take (min 4 b.length)) = some (decide (b.take (min 4 b.length) = Asc.take (min 4 b.length))) := by
 have hl : (b.take (min 4 b.length)).length = min 4 b.length := by rw [List.length_take]; omega
 rw [Hb, Et, if_pos (by rw [Dt, Ac, Ac, hl]; simp; omega), Ac, hl, Gd (by omega) (by simp; omega), Aa, Aa, Int.toNat_natCast]
 congr 1
 rw [Bool.eq_iff_iff]
 rw [decide_eq_true_eq, beq_iff_eq]
 exact eq_comm
theorem Bsv (b : List UInt8) : Gt (4 : Int) (Ac b) = ((min 4 b.length : Nat) : Int) := by rw [Ai5, Ac]; omega
theorem Bjo (b : List UInt8) (hb : b.length < 4611686018427387904) : Yy b = some (Lf b) := by
 rw [Yy, Ag7, Bsv, Gd (by omega) (by omega), Aa, Int.toNat_natCast, Bto, Aa]
 by_cases h : b.take (min 4 b.length) = Asc.take (min 4 b.length)
 ·rw [if_neg (by simpa using h)]
  by_cases h2 : b.length < 22
  ·rw [if_pos (by rw [Ae, Ac]; simp; omega), rs2 h h2]
  ·have a1 : Ajn b 18 4 = some (leU (part b 18 4), 0) := Axv b 18 4 (by omega) (by omega) (by omega) hb
   rw [if_neg (by rw [Ae, Ac]; simp; omega), a1, Aa]
   simp only
   rw [Gd (by omega) (by omega), Aa, show (18 : Int).toNat = 18 from rfl, Bd7 _ (by simp; omega), Aa]
   simp only
   rw [Bm2 b h2]
   by_cases h3 : (Hc (b.take 18)).toNat = Eh (part b 18 4)
   ·rw [if_neg (by simpa using h3), Bld b h2 hb, Abj, Amb]
    rw [show Aj [(f0 b : Int), (f1 b : Int), (f2 b : Int), (f3 b : Int), (f4 b : Int)] 0 = some (f0 b : Int) from rfl, show Aj [(f0 b : Int), (f1 b : Int), (f2 b : Int), (f3 b : Int), (f4 b : Int)] 1 = some (f1 b : Int) from rfl, show Aj [(f0 b : Int), (f1 b : Int), (f2 b : Int), (f3 b : Int), (f4 b : Int)] 2 = some (f2 b : Int) from rfl,
     show Aj [(f0 b : Int), (f1 b : Int), (f2 b : Int), (f3 b : Int), (f4 b : Int)] 3 = some (f3 b : Int) from rfl, show Aj [(f0 b : Int), (f1 b : Int), (f2 b : Int), (f3 b : Int), (f4 b : Int)] 4 = some (f4 b : Int) from rfl]
    simp only [Aa, Amu]
    cases h4 : shapeB (f0 b) (f1 b) (f2 b) (f3 b) (f4 b) with
    | false => rw [rs4 h h2 h3 h4]; rfl
    | true =>
     rw [Arj h4, if_neg (by simp), Aa]
     cases h5 : fitB (f1 b) (f3 b) (f4 b) with
     | false => rw [rs5 h h2 h3 h4 h5]; rfl
     | true => rw [rs6 h h2 h3 h4 h5]; rfl
   ·rw [if_pos (by simpa using h3), rs3 h h2 h3]
 ·rw [if_pos (by simpa using h), rs1 h]
theorem Bka (b : List UInt8) (hb : b.length < 4611686018427387904) : Ul b = some (Lf b) := by
 rw [Ul, Vg, Bsv, Gd (by omega) (by omega), Aa, Int.toNat_natCast, Gd (by omega) (by simp; omega), Aa, Int.toNat_natCast]
 by_cases h : b.take (min 4 b.length) = Asc.take (min 4 b.length)
 ·rw [if_neg (by rw [h]; simp [Asc]), Vn, Uu]
  by_cases h2 : b.length < 22
  ·rw [if_pos (by rw [Ae, Ac]; simp; omega), rs2 h h2]
  ·have a1 : Bs b 18 22 = some (part b 18 4) := Nr 18 4 (by omega)
   have c1 : Bs b 4 6 = some (part b 4 2) := Nr 4 2 (by omega)
   have c2 : Bs b 6 8 = some (part b 6 2) := Nr 6 2 (by omega)
   have c3 : Bs b 8 10 = some (part b 8 2) := Nr 8 2 (by omega)
   have c4 : Bs b 10 14 = some (part b 10 4) := Nr 10 4 (by omega)
   have c5 : Bs b 14 18 = some (part b 14 4) := Nr 14 4 (by omega)
   have hs : Cm (leU (part b 18 4)) (Ad (Hc (b.take 18)) : UInt64) = decide ((Hc (b.take 18)).toNat ≠ Eh (part b 18 4)) := by
    rw [← Bm2 b h2, Afp, Afp, Bool.eq_iff_iff]; simp only [bne_iff_ne, ne_eq]; exact not_congr eq_comm
   have lp : ∀ a w, a + w ≤ b.length → Ah (part b a w) = some (leU (part b a w)) := fun a w h => Bcy _ (by rw [Db h]; omega)
   rw [if_neg (by rw [Ae, Ac]; simp; omega), a1, Aa, Gd (by omega) (by omega), Aa, show (18 : Int).toNat = 18 from rfl, lp _ _ (by omega), Aa, Bkt _ (by simp; omega), Aa, hs]
   by_cases h3 : (Hc (b.take 18)).toNat = Eh (part b 18 4)
   ·rw [if_neg (by simpa using h3), Vy, Nn, c1, Aa, c2, Aa, c3, Aa, c4, Aa, c5, Aa, lp _ _ (by omega), Aa, lp _ _ (by omega), Aa, lp _ _ (by omega), Aa, lp _ _ (by omega), Aa, lp _ _ (by omega), Aa,
     Vf, Ad0, Acy (by rw [Db (by omega)]; omega), Acy (by rw [Db (by omega)]; omega), Acy (by rw [Db (by omega)]; omega), Acy (by rw [Db (by omega)]; omega), Acy (by rw [Db (by omega)]; omega)]
    rw [show Eh (part b 4 2) = f0 b from rfl, show Eh (part b 6 2) = f1 b from rfl, show Eh (part b 8 2) = f2 b from rfl, show Eh (part b 10 4) = f3 b from rfl, show Eh (part b 14 4) = f4 b from rfl, Ao2, Aa]
    cases h4 : shapeB (f0 b) (f1 b) (f2 b) (f3 b) (f4 b) with
    | false => rw [rs4 h h2 h3 h4]; rfl
    | true =>
     rw [Avl h4, if_neg (by simp), Aa]
     cases h5 : fitB (f1 b) (f3 b) (f4 b) with
     | false => rw [rs5 h h2 h3 h4 h5]; rfl
     | true => rw [rs6 h h2 h3 h4 h5]; rfl
   ·rw [if_pos (by simpa using h3), rs3 h h2 h3]
 ·rw [if_pos (by simpa [Asc] using h), rs1 h]
theorem Bm1 {b : List UInt8} (h : (Lf b).2.2.2.2.2 = 0) : Lf b = ((f0 b : Int), (f1 b : Int), (f2 b : Int), (f3 b : Int), (f4 b : Int), 0) ∧ 22 ≤ b.length ∧ shapeB (f0 b) (f1 b) (f2 b) (f3 b) (f4 b) = true ∧ fitB (f1 b) (f3 b) (f4 b) = true := by
 unfold Lf at h ⊢
 split at h; · simp at h
 rename_i c1; rw [if_neg c1]
 split at h; · simp at h
 rename_i c2; rw [if_neg c2]
 split at h; · simp at h
 rename_i c3; rw [if_neg c3]
 split at h; · simp at h
 rename_i c4; rw [if_neg c4]
 split at h; · simp at h
 rename_i c5; rw [if_neg c5]
 exact ⟨rfl, by omega, by simpa using c4, by simpa using c5⟩
theorem Bdk {f c w r n : Nat} (h : shapeB f c w r n = true) (h2 : fitB c r n = true) : Ep (f : Int) (c : Int) (w : Int) (r : Int) (n : Int) = some (framesL (longN r) n, 0) := by
 have hc : Wn (f : Int) (c : Int) (w : Int) (r : Int) (n : Int) = some 0 := by
  rw [Wn, Amu, Aa, h, if_neg (by simp), Arj h, Aa, h2]; rfl
 have hd : 4000 / c ≤ 4000 := Nat.div_le_self _ _
 simp only [shapeB, decide_eq_true_eq] at h
 simp only [fitB, decide_eq_true_eq] at h2
 rw [Ep, hc, Aa, if_neg (by rw [Au]; simp), Bmo (by omega) (by omega) (by omega) (by omega) h2.2]
 rfl
end Go.Pl
