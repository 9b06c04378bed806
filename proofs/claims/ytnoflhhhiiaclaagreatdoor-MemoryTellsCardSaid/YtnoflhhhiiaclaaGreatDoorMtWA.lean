/- A part of the proof of a statement of this seat (see the text that ends in Proof): LwBase, LwBitB, LwLe, LwBits, LwRef02, LwCut, LwUn, LwRice, LwDual, LwVal, LwI32, LwFil, LwUnm, LwSam, LwCrc, LwFrm, LwC64, LwWby, LwId, LwApe, LwStrip, LwLen, LwHead. No conditions of its own. -/
import Derived.Test.YtnoflhhhiiaclaaGreatDoorMtBA
import Derived.Test.YtnoflhhhiiaclaaGreatDoorMtPA
set_option linter.unusedVariables false
set_option linter.unusedSimpArgs false
namespace Go.Lv
theorem Ag {a b : Int} (h : -9223372036854775808 ≤ a + b) (h' : a + b ≤ 9223372036854775807) : Ae a b = a + b := by rw [Buo, Bu h h']
theorem Bw {a b : Int} (h : -9223372036854775808 ≤ a - b) (h' : a - b ≤ 9223372036854775807) : Ao a b = a - b := by rw [Bui, Bu h h']
theorem Gt {a b : Int} (h : -9223372036854775808 ≤ a * b) (h' : a * b ≤ 9223372036854775807) : Bb a b = a * b := by rw [Bon, Bu h h']
theorem Ahm (c : UInt8) : (Ad c : Int) = (c.toNat : Int) := by rw [Bof, Bu] <;> have := c.toNat_lt <;> omega
theorem Bh6 (c : UInt32) : (Ad c : Int) = (c.toNat : Int) := by rw [Bk0, Bu] <;> have := c.toNat_lt <;> omega
theorem Arx (c : UInt8) : (Ad c : UInt64) = UInt64.ofNat c.toNat := by simp only [Ad, Aaa, Gk]
theorem Ht (c : UInt32) : (Ad c : UInt64) = UInt64.ofNat c.toNat := by simp only [Ad, Xq, Gk]
theorem Am5 (c : UInt64) : (Ad c : UInt8) = UInt8.ofNat c.toNat := by simp only [Ad, Hv, Lf]
theorem Are (c : UInt32) : (Ad c : UInt8) = UInt8.ofNat c.toNat := by simp only [Ad, Xq, Lf]
theorem Aa9 (n : Nat) : (Ad (n : Int) : UInt64) = UInt64.ofNat n := by simp only [Ad]; exact Gk n
theorem Az3 (n : Nat) : (Ad (n : Int) : UInt32) = UInt32.ofNat n := by simp only [Ad]; exact Di n
theorem Bou (n : Nat) : (Ad (n : Int) : UInt8) = UInt8.ofNat n := by simp only [Ad]; exact Lf n
theorem Atv {c : UInt64} (h : c.toNat < 9223372036854775808) : (Ad c : Int) = (c.toNat : Int) := by rw [Bll, Bu] <;> omega
theorem Bid : LIM = 17179869184 := by decide
theorem As : 36893488147419103231 < Ay := by decide
theorem Cl {α : Type} {l : List α} {n : Nat} (h : n < l.length) : Aj l (n : Int) = some l[n] := by simp [Aj, h]
theorem Yh {α : Type} {l : List α} {n : Nat} (x : α) (h : n < l.length) : Rb l (n : Int) x = some (l.set n x) := by simp [Rb, h]
theorem Aml {α : Type} {l : List α} {a b : Int} (h : 0 ≤ a) (h1 : a ≤ b) (h2 : b ≤ l.length) : Br l a b = some ((l.take b.toNat).drop a.toNat) := by rw [Br, if_pos ⟨h, h1, h2⟩]
theorem Jf {α : Type} {l : List α} {a : Int} (h : 0 ≤ a) (h1 : a ≤ l.length) : Br l a (Ac l) = some (l.drop a.toNat) := by
 unfold Ac; rw [Aml h h1 (Int.le_refl _), Int.toNat_natCast, List.take_length]
theorem Fy {α : Type} {l : List α} {b : Int} (h : 0 ≤ b) (h1 : b ≤ l.length) : Br l 0 b = some (l.take b.toNat) := by rw [Aml (Int.le_refl _) h h1]; rfl
theorem Eu {α : Type} {l m : List α} (h : l.length + m.length ≤ 17179869184) : Fz l m = some (l ++ m) := by rw [Fz, Bid, if_pos h]
theorem Awr {α : Type} {n : Int} {z : α} (h : 0 ≤ n) (h' : n ≤ 17179869184) : mkI n z = some (List.replicate n.toNat z) := by rw [mkI, Bid, if_pos ⟨h, h'⟩]
theorem Ca {b : Bool} (h : b = true) : Oz b = some () := by rw [h]; rfl
theorem Aa {α β : Type} (a : α) (f : α → Option β) : Option.bind (some a) f = f a := rfl
theorem drop_cons {α : Type} {l : List α} {n : Nat} (h : n < l.length) : l.drop n = l[n] :: l.drop (n + 1) := List.drop_eq_getElem_cons h
theorem All {α : Type} {l : List α} {n : Nat} (h : n < l.length) : l.take (n + 1) = l.take n ++ [l[n]] := by rw [List.take_add_one, List.getElem?_eq_getElem h]; rfl
def Dw : List UInt8 → Nat
 | [] => 0
 | x :: r => x.toNat + 256 * Dw r
theorem Bb1 : ∀ l : List UInt8, Dw l < 256 ^ l.length
 | [] => by simp [Dw]
 | x :: r => by
  have h := Bb1 r
  have := x.toNat_lt
  simp only [Dw, List.length_cons, Nat.pow_succ]
  omega
theorem Ayq : ∀ l m : List UInt8, Dw (l ++ m) = Dw l + 256 ^ l.length * Dw m
 | [], m => by simp [Dw]
 | x :: r, m => by
  simp only [Dw, List.cons_append, Ayq r m, List.length_cons, Nat.pow_succ, Nat.mul_add]
  rw [Nat.mul_comm (256 ^ r.length) 256, Nat.mul_assoc]; omega
def leU (l : List UInt8) : UInt64 := UInt64.ofNat (Dw l)
theorem Brq {l : List UInt8} (h : l.length ≤ 8) : Dw l < 18446744073709551616 := by
 have h1 := Bb1 l
 have h2 : 256 ^ l.length ≤ 256 ^ 8 := Nat.pow_le_pow_right (by omega) h
 exact Nat.lt_of_lt_of_le h1 (by simpa using h2)
theorem Bj4 {l : List UInt8} (h : l.length ≤ 4) : Dw l < 4294967296 := by
 have h1 := Bb1 l
 have h2 : 256 ^ l.length ≤ 256 ^ 4 := Nat.pow_le_pow_right (by omega) h
 exact Nat.lt_of_lt_of_le h1 (by simpa using h2)
theorem Ajp {l : List UInt8} (h : l.length ≤ 8) : (leU l).toNat = Dw l := by
 rw [leU, UInt64.toNat_ofNat', Nat.mod_eq_of_lt (Brq h)]
theorem Aen {l : List UInt8} (h : l.length ≤ 4) : (Ad (leU l) : Int) = (Dw l : Int) := by
 have := Bj4 h
 rw [Atv] <;> rw [Ajp (by omega)]; omega
def leB (n : Nat) : Nat → List UInt8
 | 0 => []
 | w + 1 => UInt8.ofNat n :: leB (n / 256) w
theorem Pg : ∀ (w n : Nat), (leB n w).length = w
 | 0, _ => rfl
 | w + 1, n => by simp [leB, Pg w]
theorem Bfn : ∀ (w n : Nat), leB n (w + 1) = leB n w ++ [UInt8.ofNat (n / 256 ^ w)]
 | 0, n => by simp [leB]
 | w + 1, n => by
  rw [leB, Bfn w (n / 256), leB]
  simp [Nat.div_div_eq_div_mul, Nat.pow_succ, Nat.mul_comm]
end Go.Lv
set_option linter.unusedVariables false
set_option linter.unusedSimpArgs false
namespace Go.Lv
def Ji (p : List UInt8) (i : Nat) : Nat := (p.getD (i / 8) 0).toNat / 2 ^ (i % 8) % 2
theorem Zh (p : List UInt8) (i : Nat) : Ji p i < 2 := Nat.mod_lt _ (by omega)
def Bt (p : List UInt8) : Nat → Nat → Nat
 | _, 0 => 0
 | a, n + 1 => Ji p a + 2 * Bt p (a + 1) n
theorem Rq (p : List UInt8) : ∀ (n a : Nat), Bt p a n < 2 ^ n
 | 0, _ => by simp [Bt]
 | n + 1, a => by
  have := Rq p n (a + 1)
  have := Zh p a
  rw [Bt, Nat.pow_succ]; omega
theorem Ahw (p : List UInt8) : ∀ (m n a : Nat), Bt p a (m + n) = Bt p a m + 2 ^ m * Bt p (a + m) n
 | 0, n, a => by simp [Bt]
 | m + 1, n, a => by
  rw [show m + 1 + n = (m + n) + 1 by omega, Bt, Bt, Ahw p m n (a + 1), show a + 1 + m = a + (m + 1) by omega, Nat.pow_succ, Nat.mul_add, Nat.mul_comm (2 ^ m) 2, Nat.mul_assoc]; omega
theorem Bfk (p : List UInt8) (a : Nat) : Bt p a 1 = Ji p a := by simp [Bt]
theorem Az2 (p : List UInt8) (a n : Nat) : Bt p a (n + 1) = Bt p a n + 2 ^ n * Ji p (a + n) := by rw [Ahw p n 1 a, Bfk]
theorem Aue (p : List UInt8) (a : Nat) : ∀ t : Nat, a % 8 + t ≤ 8 → Bt p a t = (p.getD (a / 8) 0).toNat / 2 ^ (a % 8) % 2 ^ t
 | 0, _ => by simp [Bt, Nat.mod_one]
 | t + 1, h => by
  have h1 : (a + t) / 8 = a / 8 := by omega
  have h2 : (a + t) % 8 = a % 8 + t := by omega
  rw [Az2, Aue p a t (by omega), Ji, h1, h2, Nat.mod_pow_succ, Nat.pow_add, Nat.div_div_eq_div_mul]
theorem Baj {p : List UInt8} : ∀ (n a : Nat), (∀ k, k < n → Ji p (a + k) = 0) → Bt p a n = 0
 | 0, _, _ => rfl
 | n + 1, a, h => by
  have h0 := h 0 (by omega)
  rw [Bt, Baj n (a + 1) fun k hk => by have := h (k + 1) (by omega); rwa [show a + 1 + k = a + (k + 1) by omega]]
  rw [Nat.add_zero] at h0; omega
def okB (p : List UInt8) (n : Nat) : Prop := n ≤ 330000 ∧ p.length = (n + 7) / 8 ∧ ∀ k, n ≤ k → k < 8 * p.length → Ji p k = 0
def Ad8 (p : List UInt8) (a n : Nat) : List UInt8 := (List.range ((n + 7) / 8)).map fun j => UInt8.ofNat (Bt p (a + 8 * j) (min 8 (n - 8 * j)))
theorem Mx (p : List UInt8) (a n : Nat) : (Ad8 p a n).length = (n + 7) / 8 := by simp [Ad8]
theorem Bdu (p : List UInt8) : ∀ (n a k : Nat), k < n → Bt p a n / 2 ^ k % 2 = Ji p (a + k)
 | n + 1, a, 0, _ => by have := Zh p a; rw [Bt]; simp; omega
 | n + 1, a, k + 1, h => by
  have hb := Zh p a
  have e : (Ji p a + 2 * Bt p (a + 1) n) / 2 = Bt p (a + 1) n := by omega
  rw [Bt, Nat.pow_succ, Nat.mul_comm (2 ^ k) 2, ← Nat.div_div_eq_div_mul, e, Bdu p n (a + 1) k (by omega), show a + 1 + k = a + (k + 1) by omega]
theorem Blu (p : List UInt8) (n a k : Nat) (h : n ≤ k) : Bt p a n / 2 ^ k % 2 = 0 := by
 have := Rq p n a
 rw [Nat.div_eq_of_lt (Nat.lt_of_lt_of_le this (Nat.pow_le_pow_right (by omega) h))]
theorem Bmn (p : List UInt8) (a n k : Nat) : Ji (Ad8 p a n) k = if k < n then Ji p (a + k) else 0 := by
 rw [Ji]
 by_cases hj : k / 8 < (n + 7) / 8
 ·have e : (Ad8 p a n).getD (k / 8) 0 = UInt8.ofNat (Bt p (a + 8 * (k / 8)) (min 8 (n - 8 * (k / 8)))) := by
   rw [List.getD_eq_getElem?_getD, List.getElem?_eq_getElem (by rw [Mx]; exact hj)]; simp [Ad8]
  have hlt : Bt p (a + 8 * (k / 8)) (min 8 (n - 8 * (k / 8))) < 256 := by
   have := Rq p (min 8 (n - 8 * (k / 8))) (a + 8 * (k / 8))
   have h2 : 2 ^ (min 8 (n - 8 * (k / 8))) ≤ 2 ^ 8 := Nat.pow_le_pow_right (by omega) (by omega)
   omega
  have hu : (UInt8.ofNat (Bt p (a + 8 * (k / 8)) (min 8 (n - 8 * (k / 8))))).toNat = Bt p (a + 8 * (k / 8)) (min 8 (n - 8 * (k / 8))) := by
   rw [UInt8.toNat_ofNat']; exact Nat.mod_eq_of_lt hlt
  rw [e, hu]
  by_cases hk : k < n
  ·rw [if_pos hk, Bdu p _ _ _ (by omega), show a + 8 * (k / 8) + k % 8 = a + k by omega]
  ·rw [if_neg hk, Blu p _ _ _ (by omega)]
 ·have e : (Ad8 p a n).getD (k / 8) 0 = 0 := by
   rw [List.getD_eq_getElem?_getD, List.getElem?_eq_none (by rw [Mx]; omega)]; rfl
  rw [e, if_neg (by omega)]; simp
theorem Bij (p : List UInt8) (a n : Nat) (h : n ≤ 330000) : okB (Ad8 p a n) n := ⟨h, Mx p a n, fun k hk _ => by rw [Bmn, if_neg (by omega)]⟩
end Go.Lv
set_option linter.unusedVariables false
set_option linter.unusedSimpArgs false
namespace Go.Pl
open Go Go.Lv
theorem Bml (b : List UInt8) (hb : b.length < 4611686018427387904) : ∀ (j q : Nat), j ≤ b.length → j < q → Ij b q (leU (b.drop j)) ((j : Int) - 1) = some (leU b)
 | 0, q + 1, _, _ => by
  rw [Ij, Sa, if_neg (by rw [Ci]; simp)]
  simp [Aaf, Ait]
 | j + 1, q + 1, hj, hq => by
  rw [Ij, Sa, if_pos (by rw [Ci]; simp), show ((j + 1 : Nat) : Int) - 1 = (j : Int) by omega, Cl (by omega), Aa, Bw (by omega) (by omega)]
  have h : Ae (Bb (256 : UInt64) (leU (b.drop (j + 1)))) (Ad b[j] : UInt64) = leU (b.drop j) := by
   rw [Afn, Aff, Arx, drop_cons (n := j) (by omega), leU, leU, Dw, UInt64.ofNat_add, UInt64.ofNat_mul]
   exact UInt64.add_comm _ _
  rw [h]
  exact Bml b hb j q (by omega) (by omega)
theorem Bdn (b : List UInt8) (hb : b.length < 4611686018427387904) : Ah b = some (leU b) := by
 have h := Bml b hb b.length Ay (Nat.le_refl _) (by have := As; omega)
 rw [Ah, Aag, Aak]
 have e : Ao (Ac b) 1 = (b.length : Int) - 1 := Bw (by unfold Ac; omega) (by unfold Ac; omega)
 rw [e, ← h, List.drop_length]; rfl
theorem Bo8 {n c : UInt64} {i : Nat} (hn : n.toNat < 2 ^ i) (hc : c.toNat * 2 ^ i < 18446744073709551616) : gor n (Fc c i) = UInt64.ofNat (n.toNat + c.toNat * 2 ^ i) := by
 rw [Bq1]; apply UInt64.toNat_inj.1
 rw [UInt64.toNat_or, Ak5, Nat.mod_eq_of_lt hc, Nat.mul_comm, Nat.or_comm, ← Nat.two_pow_add_eq_or_of_lt hn, UInt64.toNat_ofNat', Nat.mod_eq_of_lt, Nat.add_comm, Nat.mul_comm]
 have h := Nat.two_pow_add_eq_or_of_lt hn c.toNat
 have h2 : 2 ^ i * c.toNat + n.toNat < 2 ^ 64 := by
  rw [h]
  exact Nat.or_lt_two_pow (by rw [Nat.mul_comm]; simpa using hc) n.toNat_lt
 rw [Nat.add_comm]; first | exact h2 | (rw [Nat.mul_comm]; exact h2)
theorem Az5 (b : List UInt8) (hb : b.length ≤ 8) : ∀ (j i q : Nat), i + j = b.length → j < q → Abd b q (leU (b.take i)) (i : Int) = some (leU b, 0)
 | 0, i, q + 1, hi, _ => by
  rw [Abd, Ajo, if_neg (by rw [Af, Ac]; simp; omega), show i = b.length by omega, List.take_length]; rfl
 | j + 1, i, q + 1, hi, hq => by
  have hlt : i < b.length := by omega
  rw [Abd, Ajo, if_pos (by rw [Af, Ac]; simp; omega), Cl hlt, Aa, Gt (by omega) (by omega), Ca (by rw [Ci]; simp; omega), Aa, Ag (by omega) (by omega)]
  have h : gor (leU (b.take i)) (Fc (Ad b[i] : UInt64) (GI.toZ ((8 : Int) * (i : Int))).toNat) = leU (b.take (i + 1)) := by
   have e : (GI.toZ ((8 : Int) * (i : Int))).toNat = 8 * i := by show ((8 : Int) * (i : Int)).toNat = _; omega
   have e2 : (2 : Nat) ^ (8 * i) = 256 ^ i := by rw [Nat.pow_mul]
   have h1 := Bb1 (b.take i)
   rw [List.length_take, Nat.min_eq_left (by omega)] at h1
   have h3 := b[i].toNat_lt
   have hle : (256 : Nat) ^ (i + 1) ≤ 256 ^ 8 := Nat.pow_le_pow_right (by omega) (by omega)
   rw [Nat.pow_succ] at hle
   have h4 : (Ad b[i] : UInt64).toNat = b[i].toNat := by rw [Arx, UInt64.toNat_ofNat']; omega
   have h5 : b[i].toNat * 256 ^ i < 18446744073709551616 := by
    have : b[i].toNat * 256 ^ i < 256 * 256 ^ i := Nat.mul_lt_mul_of_pos_right (by simpa using h3) (Nat.pow_pos (by omega))
    simp at hle; omega
   rw [e, Bo8 (by rw [Ajp (by simp; omega), e2]; exact h1) (by rw [h4, e2]; exact h5), Ajp (by simp; omega), h4, e2, All hlt]
   rw [leU, Ayq]
   simp only [Dw, List.length_take, Nat.min_eq_left (Nat.le_of_lt hlt), Nat.mul_zero, Nat.add_zero]
   rw [Nat.mul_comm]
  rw [h]
  exact Az5 b hb j (i + 1) q (by omega) (by omega)
theorem Ben (b : List UInt8) (h1 : 1 ≤ b.length) (h2 : b.length ≤ 8) : Api b = some (leU b, 0) := by
 have h := Az5 b h2 b.length 0 Ay (by omega) (by have := As; omega)
 rw [Api, Aov, if_neg (by simp [Af, Ap, Ac]; omega), Aop]
 exact h
def part (b : List UInt8) (at' w : Nat) : List UInt8 := (b.take (at' + w)).drop at'
theorem Cn {b : List UInt8} {a w : Nat} (h : a + w ≤ b.length) : (part b a w).length = w := by simp [part]; omega
theorem Bay (b : List UInt8) (a w : Nat) (h1 : 1 ≤ w) (h2 : w ≤ 8) (h3 : a + w ≤ b.length) (hb : b.length < 4611686018427387904) : Ak3 b (a : Int) (w : Int) = some (leU (part b a w), 0) := by
 rw [Ak3, if_neg (by simp [Af, Ap]; omega), if_neg (by rw [Ap, Bw (by unfold Ac; omega) (by unfold Ac; omega), Ac]; simp; omega), Ag (by omega) (by omega), Aml (by omega) (by omega) (by omega), Aa]
 rw [show ((a : Int) + (w : Int)).toNat = a + w by omega, show (a : Int).toNat = a by omega]
 rw [Ben _ (by rw [show ((b.take (a + w)).drop a).length = _ from Cn h3]; exact h1) (by rw [show ((b.take (a + w)).drop a).length = _ from Cn h3]; exact h2), Aa]; rfl
theorem Aus (w : Nat) (hw : w ≤ 1000) : ∀ (j i q : Nat) (n : UInt64) (acc : List UInt8), i + j = w → j < q → acc.length + j ≤ 1000000 → Dx (w : Int) q n (i : Int) acc = some (acc ++ leB n.toNat j)
 | 0, i, q + 1, n, acc, hi, _, _ => by
  rw [Dx, Jb, if_neg (by rw [Af]; simp; omega)]
  simp [Ql, Aa7, leB]
 | j + 1, i, q + 1, n, acc, hi, hq, ha => by
  rw [Dx, Jb, if_pos (by rw [Af]; simp; omega)]
  have e : (Ad (Abg n (256 : UInt64)) : UInt8) = UInt8.ofNat n.toNat := by
   rw [Am5, Beg]; apply UInt8.toNat_inj.1
   rw [UInt8.toNat_ofNat', UInt8.toNat_ofNat', UInt64.toNat_mod]
   show n.toNat % 256 % 256 = _
   omega
  have e2 : (Bq n (256 : UInt64)).toNat = n.toNat / 256 := by rw [Ar4, UInt64.toNat_div]; rfl
  rw [Eu (by simp; omega), Aa, Ag (by omega) (by omega), e]
  have h := Aus w hw j (i + 1) q (Bq n 256) (acc ++ [UInt8.ofNat n.toNat]) (by omega) (by omega) (by simp; omega)
  rw [e2] at h
  rw [show ((i : Int) + 1) = ((i + 1 : Nat) : Int) by omega, h, leB]; simp
theorem Ayj (n : UInt64) (w : Nat) (hw : w ≤ 1000) : Ck n (w : Int) = some (leB n.toNat w) := by
 rw [Ck, Qk, Qa]
 have h := Aus w hw w 0 Ay n [] (by omega) (by have := As; omega) (by simp; omega)
 simpa using h
theorem Apx {α : Type} {l m : List α} {x y : α} {i : Nat} (h : l.length = i) : (l ++ x :: m).set i y = l ++ y :: m := by subst h; simp
theorem Az6 (n : UInt64) (l4 : List UInt8) (w : Nat) (hl : l4.length = w) (hw : w ≤ 8) : ∀ (j i q : Nat), i + j = w → j < q → Abb n l4 q (i : Int) (leB n.toNat i ++ List.replicate j 0) = some (leB n.toNat w, 0)
 | 0, i, q + 1, hi, _ => by
  rw [Abb, Ajs, if_neg (by rw [Af, Ac]; simp; omega)]
  obtain rfl : i = w := by omega
  simp [Aom, Au6]
 | j + 1, i, q + 1, hi, hq => by
  have hlen : (leB n.toNat i ++ List.replicate (j + 1) 0).length = i + (j + 1) := by simp [Pg]
  rw [Abb, Ajs, if_pos (by rw [Af, Ac]; simp; omega), Gt (by omega) (by omega), Ca (by rw [Ci]; simp; omega), Aa, Cl (by rw [hlen]; omega), Aa, Yh _ (by rw [hlen]; omega), Aa, Ag (by omega) (by omega)]
  have e : (Ad (Cd n (GI.toZ ((8 : Int) * (i : Int))).toNat) : UInt8) = UInt8.ofNat (n.toNat / 256 ^ i) := by
   have e : (GI.toZ ((8 : Int) * (i : Int))).toNat = 8 * i := by show ((8 : Int) * (i : Int)).toNat = _; omega
   rw [e, Am5, Afs, Nat.pow_mul]
  rw [e, List.replicate_succ, Apx (Pg _ _)]
  have h := Az6 n l4 w hl hw j (i + 1) q (by omega) (by omega)
  rw [Bfn] at h
  simpa using h
theorem Bqw (n : UInt64) (w : Nat) (h1 : 1 ≤ w) (h2 : w ≤ 8) (h : n.toNat < 256 ^ w) : Avy n (w : Int) = some true := by
 rw [Avy]
 by_cases h8 : w = 8
 ·subst h8; rw [if_pos (by rw [Az]; rfl)]
 ·rw [if_neg (by rw [Az]; simp; omega), Gt (by omega) (by omega), Ca (by rw [Ci]; simp; omega), Aa]
  have e : (GI.toZ ((8 : Int) * (w : Int))).toNat = 8 * w := by show ((8 : Int) * (w : Int)).toNat = _; omega
  rw [e, Avr]
  have : Cd n (8 * w) = 0 := by
   apply UInt64.toNat_inj.1
   rw [Afs, Nat.pow_mul]
   exact Nat.div_eq_of_lt h
  rw [this]; rfl
theorem Bc7 (n : UInt64) (w : Nat) (h1 : 1 ≤ w) (h2 : w ≤ 8) (h : n.toNat < 256 ^ w) : Ao2 n (w : Int) = some (leB n.toNat w, 0) := by
 rw [Ao2, Apk, if_neg (by simp [Af, Ap]; omega), Bqw n w h1 h2 h, Aa, if_neg (by simp), Awr (by omega) (by omega), Aa, Ca (by rw [Az]; simp), Aa, Apb]
 have h := Az6 n (List.replicate (w : Int).toNat 0) w (by simp) h2 w 0 Ay (by omega) (by have := As; omega)
 simpa [leB] using h
end Go.Pl
set_option linter.unusedVariables false
set_option linter.unusedSimpArgs false
namespace Go.Pl
open Go Go.Lv
theorem Bd0 (n : Nat) (h : n < 4611686018427387904) : Ik (n : Int) (7 : Int) = ((n % 8 : Nat) : Int) := by
 have e : Ik (n : Int) (7 : Int) = wrap64 ((BitVec.ofInt 64 (n : Int) &&& BitVec.ofInt 64 7).toNat : Int) := rfl
 rw [e, BitVec.toNat_and, BitVec.toNat_ofInt, BitVec.toNat_ofInt]
 have h1 : ((n : Int) % ((2 ^ 64 : Nat) : Int)).toNat = n := by omega
 have h2 : ((7 : Int) % ((2 ^ 64 : Nat) : Int)).toNat = 2 ^ 3 - 1 := by decide
 rw [h1, h2, Nat.and_two_pow_sub_one_eq_mod, Bu (by omega) (by omega)]
theorem Bvf (n : Nat) : Bb4 (n : Int) (GI.toZ (3 : UInt64)).toNat = ((n / 8 : Nat) : Int) := by
 have e : Bb4 (n : Int) (GI.toZ (3 : UInt64)).toNat = (n : Int).fdiv 8 := rfl
 rw [e, Int.fdiv_eq_ediv_of_nonneg _ (by omega)]; omega
theorem Bu9 {t : Nat} (h : t ≤ 8) : Ao (Fc (1 : UInt8) t) (1 : UInt8) = UInt8.ofNat (2 ^ t - 1) := by
 have : t = 0 ∨ t = 1 ∨ t = 2 ∨ t = 3 ∨ t = 4 ∨ t = 5 ∨ t = 6 ∨ t = 7 ∨ t = 8 := by omega
 rcases this with rfl | rfl | rfl | rfl | rfl | rfl | rfl | rfl | rfl <;> decide
theorem bitsOf (c : UInt8) (off t : Nat) (h : t ≤ 8) : (Ik (Cd c off) (Ao (Fc (1 : UInt8) t) (1 : UInt8))).toNat = c.toNat / 2 ^ off % 2 ^ t := by
 have hp : 2 ^ t ≤ 2 ^ 8 := Nat.pow_le_pow_right (by omega) h
 rw [Bu9 h, Bsh, UInt8.toNat_and, Bjb, UInt8.toNat_ofNat', Nat.mod_eq_of_lt (by have := Nat.pow_pos (n := t) (show 0 < 2 by omega); omega), Nat.and_two_pow_sub_one_eq_mod]
theorem Aw5 {p : List UInt8} {k : Nat} (h : k < p.length) : Aj p (k : Int) = some (p.getD k 0) := by
 rw [Cl h]; simp [List.getD_eq_getElem?_getD, h]
def Wz (p : List UInt8) (a n : Nat) : UInt64 := UInt64.ofNat (Bt p a n)
theorem Ack (p : List UInt8) (a n : Nat) (h : n ≤ 64) : (Wz p a n).toNat = Bt p a n := by
 have h1 := Rq p n a
 have h2 : 2 ^ n ≤ 2 ^ 64 := Nat.pow_le_pow_right (by omega) h
 rw [Wz, UInt64.toNat_ofNat', Nat.mod_eq_of_lt (by omega)]
theorem Bf1 (p : List UInt8) (N : Int) (a n : Nat) (hn : n ≤ 64) (ha : a + n ≤ 8 * p.length) (hp : p.length ≤ 1000000) : ∀ (j h q : Nat), h + j = n → j < q → Aey (a : Int) (n : Int) p N q (Wz p a h) (h : Int) = some (Wz p a n)
 | j, h, q + 1, hj, hq => by
  rw [Aey, Apo]
  by_cases hlt : h < n
  ·have e1 : Ae (a : Int) (h : Int) = ((a + h : Nat) : Int) := by rw [Ag (by omega) (by omega)]; omega
   have e2 : Gs (Ao (n : Int) (h : Int)) (Ao (8 : Int) (((a + h) % 8 : Nat) : Int)) = ((min (n - h) (8 - (a + h) % 8) : Nat) : Int) := by
    rw [Akv, Bw (by omega) (by omega), Bw (by omega) (by omega)]; omega
   have hm : (a + h) / 8 < p.length := by omega
   rw [if_pos (by rw [Af]; simp; omega), e1, Bvf, Aw5 hm, Aa, Bd0 _ (by omega), Ca (by rw [Ci]; simp; omega), Aa, e2, Ca (by rw [Ci]; simp), Aa, Ca (by rw [Ci]; simp), Aa]
   generalize hT : min (n - h) (8 - (a + h) % 8) = T
   have hT8 : T ≤ 8 := by omega
   have hT1 : 1 ≤ T := by omega
   have hb : (a + h) % 8 + T ≤ 8 := by omega
   have hv := Aue p (a + h) T hb
   have z1 : (GI.toZ (((a + h) % 8 : Nat) : Int)).toNat = (a + h) % 8 := rfl
   have z2 : (GI.toZ ((T : Nat) : Int)).toNat = T := rfl
   have z3 : (GI.toZ ((h : Nat) : Int)).toNat = h := rfl
   rw [z1, z2, z3]
   have hx : (Ad (Ik (Cd (p.getD ((a + h) / 8) 0) ((a + h) % 8)) (Ao (Fc (1 : UInt8) T) (1 : UInt8))) : UInt64).toNat = Bt p (a + h) T := by
    rw [Arx, UInt64.toNat_ofNat', bitsOf _ _ _ hT8, ← hv]
    have := Rq p T (a + h)
    have h2 : 2 ^ T ≤ 2 ^ 8 := Nat.pow_le_pow_right (by omega) hT8
    omega
   have hlt2 := Rq p (h + T) a
   rw [Ahw] at hlt2
   have h64 : 2 ^ (h + T) ≤ 2 ^ 64 := Nat.pow_le_pow_right (by omega) (by omega)
   have hor : gor (Wz p a h) (Fc (Ad (Ik (Cd (p.getD ((a + h) / 8) 0) ((a + h) % 8)) (Ao (Fc (1 : UInt8) T) (1 : UInt8))) : UInt64) h) = Wz p a (h + T) := by
    rw [Bo8 (by rw [Ack p a h (by omega)]; exact Rq p h a) (by rw [hx, Nat.mul_comm]; omega), hx, Ack p a h (by omega), Wz, Ahw, Nat.mul_comm (2 ^ h)]
   rw [hor, Ag (by omega) (by omega), show (h : Int) + ((T : Nat) : Int) = ((h + T : Nat) : Int) by omega]
   exact Bf1 p N a n hn ha hp (j - T) (h + T) q (by omega) (by omega)
  ·rw [if_neg (by rw [Af]; simp; omega), show h = n by omega]; rfl
theorem get_eq (p : List UInt8) (N : Int) (a n : Nat) (hn : n ≤ 64) (ha : a + n ≤ 8 * p.length) (hp : p.length ≤ 1000000) : Asl p N (a : Int) (n : Int) = some (Wz p a n) := by
 have := Bf1 p N a n hn ha hp n 0 Ay (by omega) (by have := As; omega)
 exact this
theorem Ahi {p : List UInt8} {n : Nat} (h : okB p n) : Se p (n : Int) = some 0 := by
 obtain ⟨h1, h2, h3⟩ := h
 have e7 : Ae (n : Int) 7 = ((n + 7 : Nat) : Int) := by rw [Ag (by omega) (by omega)]; omega
 rw [Se, e7, Bvf, if_neg (by simp [Af, Ap, Al, Ac, h2]; omega), Bd0 _ (by omega)]
 by_cases hz : n % 8 = 0
 ·rw [if_neg (by rw [Ap]; simp; omega)]
 ·have el : Ao (Ac p) 1 = ((p.length - 1 : Nat) : Int) := by rw [Ac, Bw (by omega) (by omega)]; omega
  rw [if_pos (by rw [Ap]; simp; omega), el, Aw5 (by omega), Aa, Ca (by rw [Ci]; simp; omega), Aa]
  have z : (GI.toZ ((n % 8 : Nat) : Int)).toNat = n % 8 := rfl
  have hs : Cd (p.getD (p.length - 1) 0) (n % 8) = 0 := by
   apply UInt8.toNat_inj.1
   rw [Bjb]
   have hv := Aue p n (8 - n % 8) (by omega)
   have h0 : Bt p n (8 - n % 8) = 0 := Baj _ _ fun k hk => h3 _ (by omega) (by omega)
   rw [h0, show n / 8 = p.length - 1 by omega] at hv
   have hlt : (p.getD (p.length - 1) 0).toNat / 2 ^ (n % 8) < 2 ^ (8 - n % 8) := by
    have := (p.getD (p.length - 1) 0).toNat_lt
    rw [Nat.div_lt_iff_lt_mul (Nat.pow_pos (by omega)), ← Nat.pow_add, show 8 - n % 8 + n % 8 = 8 by omega]; simpa using this
   rw [Nat.mod_eq_of_lt hlt] at hv
   exact hv.symm
  rw [z, hs, if_neg (by rw [Bg6]; simp)]
theorem Aud {p : List UInt8} {N : Nat} (h : okB p N) (a n : Nat) (hn : n ≤ 64) : Acs p (N : Int) (a : Int) (n : Int) = some (if N < a + n then (0, 24) else (Wz p a n, 0)) := by
 obtain ⟨h1, h2, h3⟩ := h
 rw [Acs, Ahi ⟨h1, h2, h3⟩, Aa, if_neg (by rw [Al]; simp), if_neg (by simp [Af, Ap]; omega), Bw (by omega) (by omega)]
 by_cases hl : N < a + n
 ·rw [if_pos (by rw [Ap]; simp; omega), if_pos hl]
 ·rw [if_neg (by rw [Ap]; simp; omega), get_eq p N a n hn (by omega) (by omega), Aa, if_neg hl]
end Go.Pl
set_option linter.unusedVariables false
set_option linter.unusedSimpArgs false
namespace Go.Pl
open Go Go.Lv
theorem Bwk (c : Nat) (h : c < 4611686018427387904) : Bq (c : Int) (2 : Int) = ((c / 2 : Nat) : Int) := by
 rw [Af1, Int.tdiv_eq_ediv_of_nonneg (by omega), Bu (by omega) (by omega)]; omega
theorem Bv0 (c : Nat) (h : c < 4611686018427387904) : Bq (c : Int) (8 : Int) = ((c / 8 : Nat) : Int) := by
 rw [Af1, Int.tdiv_eq_ediv_of_nonneg (by omega), Bu (by omega) (by omega)]; omega
theorem Bpz (c : Nat) : Il (c : Int) (8 : Int) = ((c % 8 : Nat) : Int) := by rw [Il, Int.tmod_eq_emod_of_nonneg (by omega)]; omega
theorem Bwr (c : Nat) : Il (c : Int) (2 : Int) = ((c % 2 : Nat) : Int) := by rw [Il, Int.tmod_eq_emod_of_nonneg (by omega)]; omega
theorem Bi6 (i c : Nat) (hc : c < 256) : ∀ (j k q : Nat), k + j = i % 8 → j < q → Ig (i : Int) q ((c / 2 ^ k : Nat) : Int) (k : Int) = some (((c / 2 ^ (i % 8) % 2 : Nat) : Int))
 | 0, k, q + 1, hk, _ => by
  rw [Ig, Rv, Bpz, if_neg (by rw [Af]; simp; omega), Aab, Ahs, Bwr, show k = i % 8 by omega]
 | j + 1, k, q + 1, hk, hq => by
  have hle : c / 2 ^ k ≤ c := Nat.div_le_self _ _
  rw [Ig, Rv, Bpz, if_pos (by rw [Af]; simp; omega), Bwk _ (by omega), Ag (by omega) (by omega), Nat.div_div_eq_div_mul, ← Nat.pow_succ]
  exact Bi6 i c hc j (k + 1) q (by omega) (by omega)
theorem At8 (p : List UInt8) (N : Int) (i : Nat) (h : i / 8 < p.length) (hi : i < 4611686018427387904) : Hr p N (i : Int) = some ((Ji p i : Nat) : Int) := by
 have hc := (p.getD (i / 8) 0).toNat_lt
 have := Bi6 i (p.getD (i / 8) 0).toNat (by simpa using hc) (i % 8) 0 Ay (by omega) (by have := As; omega)
 rw [Hr, Aae, Bv0 _ hi, Aw5 h, Aa, Ahm, Aac]
 simpa [Ji] using this
theorem Ay3 (p : List UInt8) (N : Int) (a n : Nat) (ha : a + n ≤ 8 * p.length) (hp : p.length ≤ 1000000) : ∀ (j q : Nat), j ≤ n → j < q → Fp (a : Int) p N q (Wz p (a + j) (n - j)) ((j : Int) - 1) = some (Wz p a n)
 | 0, q + 1, _, _ => by
  rw [Fp, Lw, if_neg (by rw [Ci]; simp)]; rfl
 | j + 1, q + 1, hj, hq => by
  have hb := Zh p (a + j)
  rw [Fp, Lw, show ((j + 1 : Nat) : Int) - 1 = (j : Int) by omega, if_pos (by rw [Ci]; simp), Ag (a := (a : Int)) (by omega) (by omega), show (a : Int) + (j : Int) = ((a + j : Nat) : Int) by omega, At8 p N (a + j) (by omega) (by omega), Aa, Bw (by omega) (by omega)]
  have e : Ae (Bb (2 : UInt64) (Wz p (a + (j + 1)) (n - (j + 1)))) (Ad ((Ji p (a + j) : Nat) : Int) : UInt64) = Wz p (a + j) (n - j) := by
   rw [Afn, Aff, Aa9, Wz, Wz, show n - j = (n - (j + 1)) + 1 by omega, Bt, show a + j + 1 = a + (j + 1) by omega, UInt64.ofNat_add, UInt64.ofNat_mul]
   exact UInt64.add_comm _ _
  rw [e]
  exact Ay3 p N a n ha hp j q (by omega) (by omega)
theorem Ari (p : List UInt8) (N : Int) (a n : Nat) (ha : a + n ≤ 8 * p.length) (hp : p.length ≤ 1000000) : Li p N (a : Int) (n : Int) = some (Wz p a n) := by
 have := Ay3 p N a n ha hp n Ay (Nat.le_refl _) (by have := As; omega)
 have hz : Wz p (a + n) (n - n) = 0 := by rw [Nat.sub_self]; rfl
 rw [hz] at this
 rw [Li, Uh, Tr, Bw (by omega) (by omega)]
 exact this
theorem Bie (bit : Int) (N : Nat) (l : List UInt8) : ∀ (j k q : Nat), k + j = N % 8 → j < q → Hi bit (N : Int) l q ((2 ^ k : Nat) : Int) (k : Int) = Pa bit ((2 ^ (N % 8) : Nat) : Int) (N : Int) l
 | 0, k, q + 1, hk, _ => by
  rw [Hi, Po, Bpz, if_neg (by rw [Af]; simp; omega), show k = N % 8 by omega]
 | j + 1, k, q + 1, hk, hq => by
  have hp : 2 ^ k ≤ 2 ^ 8 := Nat.pow_le_pow_right (by omega) (by omega)
  have e : Bb ((2 ^ k : Nat) : Int) 2 = ((2 ^ (k + 1) : Nat) : Int) := by
   rw [Nat.pow_succ]
   generalize 2 ^ k = K at *
   rw [Gt (by omega) (by omega)]; omega
  rw [Hi, Po, Bpz, if_pos (by rw [Af]; simp; omega), e, Ag (by omega) (by omega)]
  exact Bie bit N l j (k + 1) q (by omega) (by omega)
theorem Ay8 (p : List UInt8) (a n j : Nat) (h : j < (n + 7) / 8) : (Ad8 p a n)[j]'(by rw [Mx]; exact h) = UInt8.ofNat (Bt p (a + 8 * j) (min 8 (n - 8 * j))) := by simp [Ad8]
theorem Bdc (p : List UInt8) (a t : Nat) (h : t ≤ 8) : Bt p a t < 256 := by
 have h1 := Rq p t a
 have h2 : 2 ^ t ≤ 2 ^ 8 := Nat.pow_le_pow_right (by omega) h
 omega
def room (p : List UInt8) (a n : Nat) : List UInt8 := if n % 8 = 0 then Ad8 p a n ++ [0] else Ad8 p a n
theorem Zd (p : List UInt8) (a n : Nat) : (room p a n).length = n / 8 + 1 := by
 rw [room]; split <;> simp [Mx] <;> omega
theorem Bes (p : List UInt8) (a n j : Nat) (h : j < n / 8 + 1) : (room p a n)[j]'(by rw [Zd]; exact h) = UInt8.ofNat (Bt p (a + 8 * j) (min 8 (n - 8 * j))) := by
 have h0 : (room p a n)[j]? = some (UInt8.ofNat (Bt p (a + 8 * j) (min 8 (n - 8 * j)))) := by
  rw [room]
  split
  ·by_cases hj : j < (n + 7) / 8
   ·rw [List.getElem?_append_left (by rw [Mx]; exact hj), List.getElem?_eq_getElem (by rw [Mx]; exact hj), Ay8 p a n j hj]
   ·rw [List.getElem?_append_right (by rw [Mx]; omega), Mx, show j - (n + 7) / 8 = 0 by omega, show n - 8 * j = 0 by omega]; rfl
  ·rw [List.getElem?_eq_getElem (by rw [Mx]; omega), Ay8 p a n j (by omega)]
 rw [List.getElem?_eq_getElem (by rw [Zd]; exact h)] at h0
 exact Option.some.inj h0
theorem Be3 (p : List UInt8) (a n T : Nat) (h1 : 1 ≤ T) (h : n % 8 + T ≤ 8) : (room p a n).set (n / 8) (UInt8.ofNat (Bt p (a + 8 * (n / 8)) (n % 8 + T))) = Ad8 p a (n + T) := by
 apply List.ext_getElem (by rw [List.length_set, Zd, Mx]; omega)
 intro j g1 g2
 rw [List.length_set, Zd] at g1
 rw [List.getElem_set, Ay8 p a (n + T) j (by rw [Mx] at g2; exact g2)]
 split
 ·rename_i e; subst e; rw [show min 8 (n + T - 8 * (n / 8)) = n % 8 + T by omega]
 ·rw [Bes p a n j g1, show min 8 (n - 8 * j) = 8 by omega, show min 8 (n + T - 8 * j) = 8 by omega]
theorem Ban (p : List UInt8) (a n : Nat) : (room p a n)[n / 8]'(by rw [Zd]; omega) = UInt8.ofNat (Bt p (a + 8 * (n / 8)) (n % 8)) := by
 rw [Bes p a n _ (by omega), show min 8 (n - 8 * (n / 8)) = n % 8 by omega]
theorem Bnm (p : List UInt8) (a n : Nat) (hn : n ≤ 400000) : Qp (Ad8 p a n) (n : Int) ((Ji p (a + n) : Nat) : Int) = some (Ad8 p a (n + 1), ((n + 1 : Nat) : Int)) := by
 have hb := Zh p (a + n)
 have hp : 2 ^ (n % 8) ≤ 2 ^ 7 := Nat.pow_le_pow_right (by omega) (by omega)
 have hroom : Qp (Ad8 p a n) (n : Int) ((Ji p (a + n) : Nat) : Int) = Pk ((Ji p (a + n) : Nat) : Int) (n : Int) (room p a n) := by
  rw [Qp, Yp, Bpz, room]
  by_cases h0 : n % 8 = 0
  ·rw [if_pos (by rw [Az, h0]; rfl), Eu (by rw [Mx]; simp; omega), Aa, if_pos h0]
  ·rw [if_neg (by rw [Az]; simp; omega), if_neg h0]
 have hl := Bie ((Ji p (a + n) : Nat) : Int) n (room p a n) (n % 8) 0 Ay (by omega) (by have := As; omega)
 rw [hroom, Pk, Yy, Xz]
 refine Eq.trans hl ?_
 have hg : Aj (room p a n) ((n / 8 : Nat) : Int) = some (UInt8.ofNat (Bt p (a + 8 * (n / 8)) (n % 8))) := by
  rw [Cl (by rw [Zd]; omega), Ban]
 have hlt := Bdc p (a + 8 * (n / 8)) (n % 8 + 1) (by omega)
 have hsn := Az2 p (a + 8 * (n / 8)) (n % 8)
 rw [show a + 8 * (n / 8) + n % 8 = a + n by omega] at hsn
 have hm : Bb ((Ji p (a + n) : Nat) : Int) ((2 ^ (n % 8) : Nat) : Int) = ((2 ^ (n % 8) * Ji p (a + n) : Nat) : Int) := by
  have hle : 2 ^ (n % 8) * Ji p (a + n) ≤ 2 ^ 7 * 1 := Nat.mul_le_mul hp (by omega)
  rw [Bon, ← Int.natCast_mul, Bu (by omega) (by rw [Nat.mul_comm]; omega), Nat.mul_comm]
 have hx : Ae (UInt8.ofNat (Bt p (a + 8 * (n / 8)) (n % 8))) (Ad (((2 ^ (n % 8) * Ji p (a + n) : Nat) : Int)) : UInt8) = UInt8.ofNat (Bt p (a + 8 * (n / 8)) (n % 8 + 1)) := by
  rw [Brv, Bou, hsn, UInt8.ofNat_add]
 rw [Pa, Agt, Bv0 _ (by omega), hg, Aa, Aa, Aa, hm, hx, Yh _ (by rw [Zd]; omega), Aa, Be3 p a n 1 (by omega) (by omega), Ag (by omega) (by omega)]; rfl
theorem As8 (p : List UInt8) (N : Int) (a n : Nat) (ha : a + n ≤ 8 * p.length) (hp : p.length ≤ 1000000) (hn : n ≤ 300000) : ∀ (j m q : Nat), m + j = n → j < q → Ds ((a + n : Nat) : Int) p N q ((a + m : Nat) : Int) (m : Int) (Ad8 p a m) = some (Ad8 p a n, (n : Int))
 | 0, m, q + 1, hm, _ => by
  rw [Ds, Jm, if_neg (by rw [Af]; simp; omega), show m = n by omega]; rfl
 | j + 1, m, q + 1, hm, hq => by
  rw [Ds, Jm, if_pos (by rw [Af]; simp; omega), At8 p N (a + m) (by omega) (by omega), Aa, Bnm p a m (by omega), Aa]
  simp only
  rw [Ag (by omega) (by omega)]
  exact As8 p N a n ha hp hn j (m + 1) q (by omega) (by omega)
theorem Be8 (p : List UInt8) (N : Int) (a n : Nat) (ha : a + n ≤ 8 * p.length) (hp : p.length ≤ 1000000) (hn : n ≤ 300000) : Xg p N (a : Int) ((a + n : Nat) : Int) = some (Ad8 p a n, (n : Int)) := by
 have := As8 p N a n ha hp hn n 0 Ay (by omega) (by have := As; omega)
 exact this
end Go.Pl
set_option linter.unusedVariables false
set_option linter.unusedSimpArgs false
namespace Go.Pl
open Go Go.Lv
theorem Bum {t : Nat} (h : t ≤ 8) : Ao (Fc (1 : UInt64) t) (1 : UInt64) = UInt64.ofNat (2 ^ t - 1) := by
 have : t = 0 ∨ t = 1 ∨ t = 2 ∨ t = 3 ∨ t = 4 ∨ t = 5 ∨ t = 6 ∨ t = 7 ∨ t = 8 := by omega
 rcases this with rfl | rfl | rfl | rfl | rfl | rfl | rfl | rfl | rfl <;> decide
theorem Bwh (v : UInt64) {t : Nat} (h : t ≤ 8) : (Ik v (Ao (Fc (1 : UInt64) t) (1 : UInt64))).toNat = v.toNat % 2 ^ t := by
 have hp : 2 ^ t ≤ 2 ^ 8 := Nat.pow_le_pow_right (by omega) h
 rw [Bum h, Axd, UInt64.toNat_and, UInt64.toNat_ofNat', Nat.mod_eq_of_lt (by have := Nat.pow_pos (n := t) (show 0 < 2 by omega); omega), Nat.and_two_pow_sub_one_eq_mod]
theorem or8 {v w i : Nat} (hv : v < 2 ^ i) (hw : w * 2 ^ i < 256) (hi : i < 8) : gor (UInt8.ofNat v) (Fc (UInt8.ofNat w) i) = UInt8.ofNat (v + w * 2 ^ i) := by
 have hp : 2 ^ i ≤ 2 ^ 8 := Nat.pow_le_pow_right (by omega) (by omega)
 have hpos : 0 < 2 ^ i := Nat.pow_pos (by omega)
 have hw2 : w < 256 := Nat.lt_of_le_of_lt (Nat.le_mul_of_pos_right w hpos) hw
 rw [Buy]; apply UInt8.toNat_inj.1
 have e1 : (UInt8.ofNat v).toNat = v := by rw [UInt8.toNat_ofNat', Nat.mod_eq_of_lt (by omega)]
 have e2 : (UInt8.ofNat w).toNat = w := by rw [UInt8.toNat_ofNat', Nat.mod_eq_of_lt (by omega)]
 rw [UInt8.toNat_or, Bq2, e1, e2, Nat.mod_eq_of_lt hw, Nat.mul_comm w, Nat.or_comm, ← Nat.two_pow_add_eq_or_of_lt hv, UInt8.toNat_ofNat', Nat.add_comm v]
 rw [Nat.mul_comm] at hw
 have hb : 2 ^ i * w + v < 256 := by
  rw [Nat.two_pow_add_eq_or_of_lt hv]
  exact Nat.or_lt_two_pow (n := 8) hw (by omega)
 rw [Nat.mod_eq_of_lt hb]
theorem Box (p : List UInt8) (a n T : Nat) (h : T ≤ n) (hn : n ≤ 64) : Cd (Wz p a n) T = Wz p (a + T) (n - T) := by
 apply UInt64.toNat_inj.1
 rw [Afs, Ack p a n hn, Ack p (a + T) (n - T) (by omega)]
 have := Rq p T a
 conv => lhs; rw [show n = T + (n - T) by omega, Ahw, Nat.add_mul_div_left _ _ (Nat.pow_pos (by omega)), Nat.div_eq_of_lt this, Nat.zero_add]
theorem Bow (p : List UInt8) (a n T : Nat) (h : T ≤ n) (hn : n ≤ 64) : (Wz p a n).toNat % 2 ^ T = Bt p a T := by
 have := Rq p T a
 rw [Ack p a n hn]
 conv => lhs; rw [show n = T + (n - T) by omega, Ahw, Nat.add_mul_mod_self_left, Nat.mod_eq_of_lt this]
theorem Axq (bk : Int → Int → List UInt8 → Option (List UInt8 × Int × Int)) (to' : Int) (p : List UInt8) (N fr : Int) (r6 : UInt64) (a : Nat) : ∀ (j m q : Nat), m + j ≤ 300000 → j ≤ 64 → j < q →
  Mz bk to' p N fr r6 q (Wz p (a + m) j) (j : Int) (m : Int) (Ad8 p a m) = Ag0 bk to' p N fr ((m + j : Nat) : Int) (Ad8 p a (m + j))
 | 0, m, q + 1, _, _, _ => by
  rw [Mz, Ag6, if_neg (by rw [Ap]; simp)]; rfl
 | j + 1, m, q + 1, hm, hj, hq => by
  have hroom : Mz bk to' p N fr r6 (q + 1) (Wz p (a + m) (j + 1)) ((j + 1 : Nat) : Int) (m : Int) (Ad8 p a m) = Agz (Mz bk to' p N fr r6 q) to' fr p N r6 (Wz p (a + m) (j + 1)) ((j + 1 : Nat) : Int) (m : Int) (room p a m) := by
   rw [Mz, Ag6, if_pos (by rw [Ap]; simp), Bd0 m (by omega), room]
   by_cases h0 : m % 8 = 0
   ·rw [if_pos (by rw [Az, h0]; rfl), Eu (by rw [Mx]; simp; omega), Aa, if_pos h0]
   ·rw [if_neg (by rw [Az]; simp; omega), if_neg h0]
  have hl : Ao (Ac (room p a m)) 1 = ((m / 8 : Nat) : Int) := by
   rw [Ac, Zd, Bw (by omega) (by omega)]; omega
  have e2 : Gs ((j + 1 : Nat) : Int) (Ao (8 : Int) ((m % 8 : Nat) : Int)) = ((min (j + 1) (8 - m % 8) : Nat) : Int) := by
   rw [Akv, Bw (by omega) (by omega)]; omega
  rw [hroom, Agz, Amp, Bd0 m (by omega), e2, hl]
  generalize hT : min (j + 1) (8 - m % 8) = T
  have hT1 : 1 ≤ T := by omega
  have hT8 : m % 8 + T ≤ 8 := by omega
  have hg : Aj (room p a m) ((m / 8 : Nat) : Int) = some (UInt8.ofNat (Bt p (a + 8 * (m / 8)) (m % 8))) := by
   rw [Cl (by rw [Zd]; omega), Ban]
  have z1 : (GI.toZ ((m % 8 : Nat) : Int)).toNat = m % 8 := rfl
  have z2 : (GI.toZ ((T : Nat) : Int)).toNat = T := rfl
  have hlt := Bdc p (a + 8 * (m / 8)) (m % 8 + T) (by omega)
  have hadd := Ahw p (m % 8) T (a + 8 * (m / 8))
  rw [show a + 8 * (m / 8) + m % 8 = a + m by omega] at hadd
  have hbyte : (Ad (Ik (Wz p (a + m) (j + 1)) (Ao (Fc (1 : UInt64) T) (1 : UInt64))) : UInt8) = UInt8.ofNat (Bt p (a + m) T) := by
   rw [Am5, Bwh _ (by omega), Bow p (a + m) (j + 1) T (by omega) hj]
  have hnew : gor (UInt8.ofNat (Bt p (a + 8 * (m / 8)) (m % 8))) (Fc (UInt8.ofNat (Bt p (a + m) T)) (m % 8)) = UInt8.ofNat (Bt p (a + 8 * (m / 8)) (m % 8 + T)) := by
   rw [or8 (Rq _ _ _) (by rw [Nat.mul_comm]; omega) (by omega), hadd, Nat.mul_comm (2 ^ (m % 8))]
  rw [hg, z1, z2, hbyte]
  simp only [Aa]
  rw [Ca (by rw [Ci]; simp), Aa, Ca (by rw [Ci]; simp; omega), Aa, hnew, Yh _ (by rw [Zd]; omega), Aa, Be3 p a m T hT1 hT8, Am6, As5, Bd0 m (by omega), e2, hT, Ca (by rw [Ci]; simp), Aa, z2, Box p (a + m) (j + 1) T (by omega) hj, Bw (by omega) (by omega), Ag (by omega) (by omega)]
  have ih := Axq bk to' p N fr r6 a (j + 1 - T) (m + T) q (by omega) (by omega) (by omega)
  rw [show m + T + (j + 1 - T) = m + (j + 1) by omega] at ih
  rw [← ih, show a + m + T = a + (m + T) by omega, show ((j + 1 : Nat) : Int) - ((T : Nat) : Int) = ((j + 1 - T : Nat) : Int) by omega, show (m : Int) + ((T : Nat) : Int) = ((m + T : Nat) : Int) by omega]
theorem Bfl (p : List UInt8) (N : Int) (a n : Nat) (ha : a + n ≤ 8 * p.length) (hp : p.length ≤ 1000000) (hn : n ≤ 300000) : ∀ (j m f q : Nat), (f = m ∨ n ≤ f ∧ m = n) → m + j = n → f ≤ n + 64 → j < q → Xo ((a + n : Nat) : Int) p N q ((a + f : Nat) : Int) (m : Int) (Ad8 p a m) = some (Ad8 p a n, (n : Int), 0)
 | j, m, f, q + 1, hf, hm, hf2, hq => by
  rw [Xo, Ami]
  by_cases hlt : f < n
  ·obtain rfl : f = m := by omega
   have e1 : Gs (64 : Int) (Ao ((a + n : Nat) : Int) ((a + f : Nat) : Int)) = ((min 64 (n - f) : Nat) : Int) := by
    rw [Akv, Bw (by omega) (by omega)]; omega
   rw [if_pos (by rw [Af]; simp; omega), e1, get_eq p N (a + f) _ (by omega) (by omega) hp, Aa, Amn]
   have h1 := Axq (Xo ((a + n : Nat) : Int) p N q) ((a + n : Nat) : Int) p N ((a + f : Nat) : Int) (Wz p (a + f) (min 64 (n - f))) a (min 64 (n - f)) f Ay (by omega) (by omega) (by have := As; omega)
   refine Eq.trans h1 ?_
   rw [Ag0, As1, Ag (by omega) (by omega), show ((a + f : Nat) : Int) + 64 = ((a + (f + 64) : Nat) : Int) by omega]
   exact Bfl p N a n ha hp hn (j - min 64 (n - f)) (f + min 64 (n - f)) (f + 64) q (by omega) (by omega) (by omega) (by omega)
  ·rw [if_neg (by rw [Af]; simp; omega), Am8, As6, show m = n by omega]
theorem Bt4 {p : List UInt8} {N : Nat} (h : okB p N) (a n : Nat) (ha : a + n ≤ N) (hn : n ≤ 300000) : Aoc p (N : Int) (a : Int) ((a + n : Nat) : Int) = some (Ad8 p a n, (n : Int), 0) := by
 obtain ⟨h1, h2, h3⟩ := h
 have := Bfl p N a n (by omega) (by omega) hn n 0 0 Ay (by omega) (by omega) (by omega) (by have := As; omega)
 rw [Aoc, Apd, Ahi ⟨h1, h2, h3⟩, Aa, if_neg (by rw [Al]; simp), if_neg (by simp [Af, Ap]; omega), Am9]
 exact this
end Go.Pl
set_option linter.unusedVariables false
set_option linter.unusedSimpArgs false
namespace Go.Pl
open Go Go.Lv
def Fb (p : List UInt8) : Nat → Nat → Nat
 | _, 0 => 0
 | a, m + 1 => if Ji p a = 1 then 1 + Fb p (a + 1) m else 0
theorem Ajq (p : List UInt8) : ∀ (m a : Nat), Fb p a m ≤ m
 | 0, _ => Nat.le_refl _
 | m + 1, a => by rw [Fb]; split <;> have := Ajq p m (a + 1) <;> omega
theorem Bda (p : List UInt8) : ∀ (m a : Nat), ∃ s, Bt p a m + 1 = 2 ^ (Fb p a m + 1) * s + 2 ^ Fb p a m ∧ (Fb p a m = m → s = 0)
 | 0, a => ⟨0, by simp [Bt, Fb], fun _ => rfl⟩
 | m + 1, a => by
  have hb := Zh p a
  obtain ⟨s, h1, h2⟩ := Bda p m (a + 1)
  by_cases h : Ji p a = 1
  ·refine ⟨s, ?_, fun e => h2 ?_⟩
   ·rw [Fb, if_pos h, Bt, h, show 1 + Fb p (a + 1) m + 1 = (Fb p (a + 1) m + 1) + 1 by omega, show 1 + Fb p (a + 1) m = Fb p (a + 1) m + 1 by omega, Nat.pow_succ, Nat.pow_succ (n := 2) (m := Fb p (a + 1) m)]
    rw [Nat.pow_succ] at h1
    generalize Bt p (a + 1) m = V at *
    generalize 2 ^ Fb p (a + 1) m = W at *
    have e1 : W * 2 * 2 * s = 2 * (W * 2 * s) := by rw [Nat.mul_right_comm (W * 2) 2 s, Nat.mul_comm]
    omega
   ·rw [Fb, if_pos h] at e; omega
  ·refine ⟨Bt p (a + 1) m, ?_, fun e => ?_⟩
   ·rw [Fb, if_neg h, Bt]; simp; omega
   ·rw [Fb, if_neg h] at e; omega
theorem Bqn {n t s : Nat} (h : 2 ^ (t + 1) * s + 2 ^ t ≤ 2 ^ n) (ht : t < n) (x : Nat) (hx : x = 2 ^ n - (2 ^ (t + 1) * s + 2 ^ t)) : x &&& (2 ^ (t + 1) * s + 2 ^ t) = 2 ^ t := by
 have hpos : 0 < 2 ^ t := Nat.pow_pos (by omega)
 have hlt : 2 ^ t < 2 ^ (t + 1) := by rw [Nat.pow_succ]; omega
 have e : x = 2 ^ n - ((2 ^ (t + 1) * s + (2 ^ t - 1)) + 1) := by rw [hx]; congr 1; omega
 apply Nat.eq_of_testBit_eq
 intro i
 rw [Nat.testBit_and, e, Nat.testBit_two_pow_sub_succ (by omega), Nat.testBit_two_pow_mul_add _ (by omega), Nat.testBit_two_pow_mul_add _ hlt]
 by_cases hi : i < t + 1
 ·rw [if_pos hi, if_pos hi, Nat.testBit_two_pow_sub_one, Nat.testBit_two_pow]
  by_cases hit : t = i
  ·subst hit; simp; exact ht
  ·have : ¬ i = t := fun e => hit e.symm
   simp [hit]
 ·rw [if_neg hi, if_neg hi, Nat.testBit_two_pow]
  have : ¬ t = i := by omega
  simp [this]
theorem Bmi (a : UInt64) : (Awx a).toNat = 18446744073709551615 - a.toNat := by
 have h := a.toNat_lt
 have e : Awx a = UInt64.ofNat (BitVec.ofInt 64 18446744073709551615 ^^^ BitVec.ofInt 64 (a.toNat : Int)).toNat := Gk _
 have h1 : BitVec.ofInt 64 (a.toNat : Int) = a.toBitVec := Bb2 a
 have h2 : (BitVec.ofInt 64 18446744073709551615 : BitVec 64) = BitVec.allOnes 64 := by decide
 rw [e, UInt64.toNat_ofNat', h1, h2, BitVec.allOnes_xor, BitVec.toNat_not]
 show (18446744073709551616 - 1 - a.toNat) % 18446744073709551616 = 18446744073709551615 - a.toNat
 omega
theorem Boq (a : UInt64) : (Ate a).toNat = (18446744073709551616 - a.toNat) % 18446744073709551616 := by
 have h := a.toNat_lt
 have e : Ate a = UInt64.ofNat ((0 - (a.toNat : Int)) % 18446744073709551616).toNat := Bco _
 rw [e, UInt64.toNat_ofNat']
 show ((0 - (a.toNat : Int)) % 18446744073709551616).toNat % 18446744073709551616 = _
 omega
def Bvy : List UInt8 := [0, 1, 56, 2, 57, 49, 28, 3, 61, 58, 42, 50, 38, 29, 17, 4, 62, 47, 59, 36, 45, 43, 51, 22, 53, 39, 33, 30, 24, 18, 12, 5, 63, 55, 48, 27, 60, 41, 37, 16, 46, 35, 44, 21, 52, 32, 23, 11, 54, 26, 40, 15, 34, 20, 31, 10, 25, 14, 19, 9, 13, 8, 7, 6]
theorem Bkv : ∀ t : Fin 64, Aj Bvy (GI.toZ (Cd (Bb (UInt64.ofNat (2 ^ t.val)) (285870213051353865 : UInt64)) (GI.toZ (58 : UInt64)).toNat)) = some (UInt8.ofNat t.val) := by decide +kernel
theorem Bu8 (x : UInt64) (t s : Nat) (ht : t < 64) (h : x.toNat + (2 ^ (t + 1) * s + 2 ^ t) = 18446744073709551616) : Es x = some (t : Int) := by
 have hpos : 0 < 2 ^ t := Nat.pow_pos (by omega)
 have hx : x.toNat = 2 ^ 64 - (2 ^ (t + 1) * s + 2 ^ t) := by show x.toNat = 18446744073709551616 - _; omega
 have hle : 2 ^ t ≤ 2 ^ 63 := Nat.pow_le_pow_right (by omega) (by omega)
 have hne : x ≠ 0 := by
  intro e
  rw [e] at h
  have h' : 2 ^ t * (2 * s + 1) = 2 ^ 64 := by
   rw [Nat.mul_add, Nat.mul_one, ← Nat.mul_assoc, ← Nat.pow_succ]
   show _ = 18446744073709551616
   simpa using h
  have h2 : 2 ^ 64 = 2 ^ t * 2 ^ (64 - t) := by rw [← Nat.pow_add]; congr 1; omega
  rw [h2] at h'
  have h3 := Nat.eq_of_mul_eq_mul_left hpos h'
  rw [show 64 - t = (63 - t) + 1 by omega, Nat.pow_succ] at h3
  omega
 have hx0 : x.toNat ≠ 0 := fun e => hne (UInt64.toNat_inj.1 e)
 have hl : Ik x (Ate x) = UInt64.ofNat (2 ^ t) := by
  apply UInt64.toNat_inj.1
  rw [Axd, UInt64.toNat_and, Boq, show (18446744073709551616 - x.toNat) % 18446744073709551616 = 2 ^ (t + 1) * s + 2 ^ t by omega, Bqn (n := 64) (by show _ ≤ 18446744073709551616; omega) ht _ hx, UInt64.toNat_ofNat', Nat.mod_eq_of_lt]
  exact Nat.lt_of_le_of_lt hle (by decide)
 have hb := Bkv ⟨t, ht⟩
 rw [Es, if_neg (by rw [Avr]; simpa using hne), hl]
 refine Eq.trans (congrArg (fun o => Option.bind o fun c => some (Ad c : Int)) hb) ?_
 rw [Aa, Ahm, UInt8.toNat_ofNat', Nat.mod_eq_of_lt (by show t < 256; omega)]
theorem Brl (p : List UInt8) (a m : Nat) (hm : m ≤ 48) : Es (Awx (Wz p a m)) = some ((Fb p a m : Nat) : Int) := by
 obtain ⟨s, h1, h2⟩ := Bda p m a
 have hle := Ajq p m a
 have hlt := Rq p m a
 have h48 : 2 ^ m ≤ 2 ^ 48 := Nat.pow_le_pow_right (by omega) hm
 have hn : (Awx (Wz p a m)).toNat = 18446744073709551615 - Bt p a m := by rw [Bmi, Ack p a m (by omega)]
 have h3 : (281474976710656 : Nat) = 2 ^ 48 := rfl
 refine Bu8 _ (Fb p a m) s (by omega) ?_
 rw [hn]; omega
def unS (p : List UInt8) (N a : Nat) : Int × Int × Int :=
 if Fb p a (min 48 (N - a)) < min 48 (N - a) then ((Fb p a (min 48 (N - a)) : Nat), ((a + Fb p a (min 48 (N - a)) + 1 : Nat) : Int), 0) else
 if Fb p a (min 48 (N - a)) = 48 then (48, ((a + 48 : Nat) : Int), 0) else (0, 0, 24)
theorem Bnt {p : List UInt8} {N : Nat} (h : okB p N) (a : Nat) (ha : a < N) : Aeb p (N : Int) (a : Int) = some (unS p N a) := by
 have hN := h.1
 have e1 : Gs (48 : Int) (Ao (N : Int) (a : Int)) = ((min 48 (N - a) : Nat) : Int) := by rw [Akv, Bw (by omega) (by omega)]; omega
 have hle := Ajq p (min 48 (N - a)) a
 rw [Aeb, Zc, Ahi h, Aa, if_neg (by rw [Al]; simp), if_neg (by rw [Af]; simp), if_neg (by rw [Ci]; simp; omega), e1, Aud h a _ (by omega), if_neg (by omega), Aa]
 simp only
 rw [Akc, Aku, if_neg (by rw [Al]; simp), Brl p a _ (by omega), Aa, Aj2, Akd, e1, unS]
 by_cases h1 : Fb p a (min 48 (N - a)) < min 48 (N - a)
 ·rw [if_pos (by rw [Af]; simp; omega), if_pos h1, Ag (a := (a : Int)) (by omega) (by omega), show Ae (0 : Int) 1 = 1 by decide, Ag (by omega) (by omega)]
  congr 3; omega
 ·rw [if_neg (by rw [Af]; simp; omega), if_neg h1, Aks, Aj8]
  by_cases h2 : Fb p a (min 48 (N - a)) = 48
  ·rw [if_pos (by rw [Az, h2]; rfl), if_pos h2, h2, Ag (a := (a : Int)) (by omega) (by omega), Ag (by omega) (by omega)]
   congr 3; omega
  ·rw [if_neg (by rw [Az]; simp; omega), if_neg h2]; rfl
theorem Bag (p : List UInt8) : ∀ (m a : Nat), Fb p a m < m → Ji p (a + Fb p a m) ≠ 1
 | 0, _, h => by simp [Fb] at h
 | m + 1, a, h => by
  by_cases hb : Ji p a = 1
  ·rw [Fb, if_pos hb] at h ⊢
   have := Bag p m (a + 1) (by omega)
   rwa [show a + (1 + Fb p (a + 1) m) = a + 1 + Fb p (a + 1) m by omega]
  ·rw [Fb, if_neg hb]; exact hb
theorem Bav (p : List UInt8) : ∀ (m a k : Nat), k < Fb p a m → Ji p (a + k) = 1
 | 0, a, k, h => by simp [Fb] at h
 | m + 1, a, k, h => by
  by_cases hb : Ji p a = 1
  ·rw [Fb, if_pos hb] at h
   cases k with
   | zero => exact hb
   | succ k =>
    have := Bav p m (a + 1) k (by omega)
    rwa [show a + (k + 1) = a + 1 + k by omega]
  ·rw [Fb, if_neg hb] at h; omega
def unR (p : List UInt8) (N a : Nat) : Int × Int := if (unS p N a).2.2 = 0 then ((unS p N a).1, (unS p N a).2.1) else (-1, 0)
theorem Axg {p : List UInt8} {N : Nat} (h : okB p N) (a : Nat) (ha : a < N) : ∀ (j k q : Nat), k + j = Fb p a (min 48 (N - a)) → j < q → Hl (a : Int) p (N : Int) q (k : Int) = some (unR p N a)
 | 0, k, q + 1, hk, _ => by
  obtain ⟨hN, hl, hz⟩ := h
  have hle := Ajq p (min 48 (N - a)) a
  have hk' : k = Fb p a (min 48 (N - a)) := by omega
  have e1 : Ae (a : Int) (k : Int) = ((a + k : Nat) : Int) := by rw [Ag (by omega) (by omega)]; omega
  have hend : Pd (a : Int) (k : Int) p (N : Int) = some (unR p N a) := by
   rw [Pd, Agv, e1]
   by_cases h48 : k = 48
   ·have hu : unS p N a = (48, ((a + 48 : Nat) : Int), 0) := by rw [unS, ← hk', if_neg (by omega), if_pos h48]
    rw [if_pos (by rw [Az, h48]; rfl), unR, hu, h48]; rfl
   ·rw [if_neg (by rw [Az]; simp; omega)]
    by_cases hN2 : N ≤ a + k
    ·have hu : unS p N a = (0, 0, 24) := by rw [unS, ← hk', if_neg (by omega), if_neg h48]
     rw [if_pos (by rw [Ci]; simp; omega), unR, hu]; rfl
    ·have hu : unS p N a = (((k : Nat) : Int), ((a + k + 1 : Nat) : Int), 0) := by rw [unS, ← hk', if_pos (by omega)]
     rw [if_neg (by rw [Ci]; simp; omega), unR, hu, Ag (by omega) (by omega)]; rfl
  rw [Hl, Pv, e1]
  by_cases hc : a + k < N ∧ k < 48
  ·have hb := Zh p (a + k)
   have hs := Bag p (min 48 (N - a)) a (by omega)
   rw [← hk'] at hs
   rw [if_pos (by simp [Af]; omega), At8 p _ (a + k) (by omega) (by omega), Aa, if_neg (by rw [Az]; simp; omega), hend]
  ·rw [if_neg (by simp [Af]; omega), hend]
 | j + 1, k, q + 1, hk, hq => by
  obtain ⟨hN, hl, hz⟩ := h
  have hle := Ajq p (min 48 (N - a)) a
  have hb := Bav p (min 48 (N - a)) a k (by omega)
  have e1 : Ae (a : Int) (k : Int) = ((a + k : Nat) : Int) := by rw [Ag (by omega) (by omega)]; omega
  rw [Hl, Pv, e1, if_pos (by simp [Af]; omega), At8 p _ (a + k) (by omega) (by omega), Aa, hb, if_pos (by decide), Ag (by omega) (by omega)]
  exact Axg ⟨hN, hl, hz⟩ a ha j (k + 1) q (by omega) (by omega)
theorem Bpt {p : List UInt8} {N : Nat} (h : okB p N) (a : Nat) (ha : a < N) : Ad9 p (N : Int) (a : Int) = some (unR p N a) := by
 have hle := Ajq p (min 48 (N - a)) a
 have := Axg h a ha (Fb p a (min 48 (N - a))) 0 Ay (by omega) (by have := As; omega)
 exact this
end Go.Pl
set_option linter.unusedVariables false
set_option linter.unusedSimpArgs false
namespace Go.Pl
open Go Go.Lv
theorem Bnb {p : List UInt8} {N a : Nat} (h : Fb p a (min 48 (N - a)) < min 48 (N - a)) : unS p N a = (((Fb p a (min 48 (N - a)) : Nat) : Int), ((a + Fb p a (min 48 (N - a)) + 1 : Nat) : Int), 0) := by rw [unS, if_pos h]
theorem Bpx {p : List UInt8} {N a : Nat} (h : ¬ Fb p a (min 48 (N - a)) < min 48 (N - a)) (h2 : Fb p a (min 48 (N - a)) = 48) : unS p N a = (48, ((a + 48 : Nat) : Int), 0) := by rw [unS, if_neg h, if_pos h2]
theorem Bps {p : List UInt8} {N a : Nat} (h : ¬ Fb p a (min 48 (N - a)) < min 48 (N - a)) (h2 : ¬ Fb p a (min 48 (N - a)) = 48) : unS p N a = (0, 0, 24) := by rw [unS, if_neg h, if_neg h2]
theorem Bl8 {p : List UInt8} {N : Nat} (h : okB p N) (a : Nat) (ha : N ≤ a) : Aeb p (N : Int) (a : Int) = some (0, 0, 24) := by
 rw [Aeb, Zc, Ahi h, Aa, if_neg (by rw [Al]; simp), if_neg (by rw [Af]; simp), if_pos (by rw [Ci]; simp; omega)]
def rcS (p : List UInt8) (N a k : Nat) : UInt32 × Int × Int :=
 if N ≤ a then (0, 0, 24) else
 if Fb p a (min 48 (N - a)) < min 48 (N - a) then
  (if N < a + Fb p a (min 48 (N - a)) + 1 + k then (0, 0, 24) else (UInt32.ofNat (Fb p a (min 48 (N - a)) * 2 ^ k + Bt p (a + Fb p a (min 48 (N - a)) + 1) k), ((a + Fb p a (min 48 (N - a)) + 1 + k : Nat) : Int), 0))
 else if Fb p a (min 48 (N - a)) = 48 then
  (if N < a + 48 + 32 then (0, 0, 24) else if Bt p (a + 48) 32 / 2 ^ k < 48 then (0, 0, 12) else (UInt32.ofNat (Bt p (a + 48) 32), ((a + 48 + 32 : Nat) : Int), 0))
 else (0, 0, 24)
theorem Asy {p : List UInt8} {a n : Nat} (h : n ≤ 32) : (Ad (Wz p a n) : UInt32) = UInt32.ofNat (Bt p a n) := by
 have e : (Ad (Wz p a n) : UInt32) = UInt32.ofNat (Wz p a n).toNat := by simp only [Ad, Hv, Di]
 rw [e, Ack p a n (by omega)]
theorem Al5 {n : Nat} (h : n < 4294967296) : (UInt32.ofNat n).toNat = n := by rw [UInt32.toNat_ofNat']; exact Nat.mod_eq_of_lt h
theorem Be2 (p : List UInt8) (a : Nat) {n : Nat} (h : n ≤ 32) : Bt p a n < 4294967296 := by
 have h1 := Rq p n a
 have h2 : 2 ^ n ≤ 2 ^ 32 := Nat.pow_le_pow_right (by omega) h
 omega
theorem Buu {q v k : Nat} (hq : q < 48) (hv : v < 2 ^ k) (hk : k ≤ 24) : gor (Fc (Ad (q : Int) : UInt32) k) (UInt32.ofNat v) = UInt32.ofNat (q * 2 ^ k + v) := by
 have hp : 2 ^ k ≤ 2 ^ 24 := Nat.pow_le_pow_right (by omega) hk
 have h1 : q * 2 ^ k ≤ 47 * 2 ^ 24 := Nat.mul_le_mul (by omega) hp
 rw [Bry]; apply UInt32.toNat_inj.1
 rw [UInt32.toNat_or, Ayu, Az3, Al5 (by omega), Al5 (n := v) (by omega), Nat.mod_eq_of_lt (by omega), Nat.mul_comm q, ← Nat.two_pow_add_eq_or_of_lt hv, Al5 (by rw [Nat.mul_comm]; omega)]
theorem Br0 {p : List UInt8} {N : Nat} (h : okB p N) (a k : Nat) (hk : k ≤ 24) : Apy p (N : Int) (a : Int) (k : Int) = some (rcS p N a k) := by
 have hN := h.1
 rw [Apy, Al2, Ahi h, Aa, if_neg (by rw [Al]; simp), if_neg (by simp [Af, Ap]; omega)]
 by_cases ha : N ≤ a
 ·rw [Bl8 h a ha, Aa, rcS, if_pos ha]; rfl
 have hle := Ajq p (min 48 (N - a)) a
 rw [Bnt h a (by omega), Aa]
 by_cases h1 : Fb p a (min 48 (N - a)) < min 48 (N - a)
 ·have hS : rcS p N a k = if N < a + Fb p a (min 48 (N - a)) + 1 + k then (0, 0, 24) else (UInt32.ofNat (Fb p a (min 48 (N - a)) * 2 ^ k + Bt p (a + Fb p a (min 48 (N - a)) + 1) k), ((a + Fb p a (min 48 (N - a)) + 1 + k : Nat) : Int), 0) := by rw [rcS, if_neg ha, if_pos h1]
  rw [Bnb h1, hS]
  generalize Fb p a (min 48 (N - a)) = q at *
  simp only
  rw [if_neg (by rw [Al]; simp), if_neg (by rw [Az]; simp; omega), Ahb, Amb, Aud h _ k (by omega), Aa]
  by_cases h2 : N < a + q + 1 + k
  ·rw [if_pos h2, if_pos h2]; rfl
  ·rw [if_neg h2, if_neg h2]
   simp only
   have z : (GI.toZ (k : Int)).toNat = k := rfl
   rw [if_neg (by rw [Al]; simp), if_pos (by rw [Af]; simp; omega), Ca (by rw [Ci]; simp), Aa, z, Asy (by omega), Buu (by omega) (Rq _ _ _) hk, Ag (by omega) (by omega)]; rfl
 ·by_cases h2 : Fb p a (min 48 (N - a)) = 48
  ·have hS : rcS p N a k = if N < a + 48 + 32 then (0, 0, 24) else if Bt p (a + 48) 32 / 2 ^ k < 48 then (0, 0, 12) else (UInt32.ofNat (Bt p (a + 48) 32), ((a + 48 + 32 : Nat) : Int), 0) := by rw [rcS, if_neg ha, if_neg h1, if_pos h2]
   have hg := Aud h (a + 48) 32 (by omega)
   rw [Bpx h1 h2, hS]
   simp only
   rw [if_neg (by rw [Al]; simp), if_pos (by rw [Az]; rfl), Ahb, Amb]
   refine Eq.trans (congrArg (fun o => Option.bind o _) hg) ?_
   rw [Aa]
   by_cases h3 : N < a + 48 + 32
   ·rw [if_pos h3, if_pos h3]; rfl
   ·rw [if_neg h3, if_neg h3]
    simp only
    have z : (GI.toZ (k : Int)).toNat = k := rfl
    have hv := Be2 p (a + 48) (n := 32) (by omega)
    rw [if_neg (by rw [Al]; simp), if_neg (by rw [Af]; simp), Aly, Ca (by rw [Ci]; simp), Aa, Aa, z, Asy (by omega), Bsr]
    have e : (decide ((48 : UInt32).toNat ≤ (Cd (UInt32.ofNat (Bt p (a + 48) 32)) k).toNat)) = decide (¬ Bt p (a + 48) 32 / 2 ^ k < 48) := by
     rw [Ak0, Al5 hv]; simp
    rw [e]
    by_cases h4 : Bt p (a + 48) 32 / 2 ^ k < 48
    ·rw [if_pos (by simp [h4]), if_pos h4]
    ·rw [if_neg (by simp; omega), if_neg h4, Ag (by omega) (by omega)]; rfl
  ·rw [Bps h1 h2, rcS, if_neg ha, if_neg h1, if_neg h2]; rfl
theorem Axk (k : Nat) (hk : k ≤ 63) : ∀ (j i q : Nat), i + j = k → j < q → Ff (k : Int) q (UInt64.ofNat (2 ^ i)) (i : Int) = some (UInt64.ofNat (2 ^ k))
 | 0, i, q + 1, hi, _ => by
  rw [Ff, Lp, if_neg (by rw [Af]; simp; omega), show i = k by omega]; rfl
 | j + 1, i, q + 1, hi, hq => by
  have e : Bb (UInt64.ofNat (2 ^ i)) (2 : UInt64) = UInt64.ofNat (2 ^ (i + 1)) := by
   rw [Aff, Nat.pow_succ, UInt64.ofNat_mul]; rfl
  rw [Ff, Lp, if_pos (by rw [Af]; simp; omega), Ag (by omega) (by omega), e]
  exact Axk k hk j (i + 1) q (by omega) (by omega)
theorem Ae8 (k : Nat) (hk : k ≤ 63) : Dd (k : Int) = some (UInt64.ofNat (2 ^ k)) :=
 Axk k hk k 0 Ay (by omega) (by have := As; omega)
theorem Aje {k : Nat} (hk : k ≤ 63) : (UInt64.ofNat (2 ^ k)).toNat = 2 ^ k := by
 have hp : 2 ^ k ≤ 2 ^ 63 := Nat.pow_le_pow_right (by omega) hk
 rw [UInt64.toNat_ofNat', Nat.mod_eq_of_lt (by omega)]
theorem Bqj (v : UInt32) (k : Nat) (hk : k ≤ 24) : Vg v (k : Int) = some ((min 48 (v.toNat / 2 ^ k) : Nat) : Int) := by
 have hpos : 0 < 2 ^ k := Nat.pow_pos (by omega)
 have hv := v.toNat_lt
 rw [Vg, Ae8 k (by omega), Aa, Ca (by rw [Ag9]; simp only [bne_iff_ne, ne_eq, ← UInt64.toNat_inj, Aje (show k ≤ 63 by omega)]; simp), Aa]
 have e : (Bq (Ad v : UInt64) (UInt64.ofNat (2 ^ k))).toNat = v.toNat / 2 ^ k := by
  rw [Ar4, UInt64.toNat_div, Ht, Aje (by omega), UInt64.toNat_ofNat', Nat.mod_eq_of_lt (by omega)]
 have hle : v.toNat / 2 ^ k ≤ v.toNat := Nat.div_le_self _ _
 have e2 : Gs (48 : UInt64) (Bq (Ad v : UInt64) (UInt64.ofNat (2 ^ k))) = UInt64.ofNat (min 48 (v.toNat / 2 ^ k)) := by
  apply UInt64.toNat_inj.1
  rw [UInt64.toNat_ofNat', Nat.mod_eq_of_lt (by omega)]
  show (if _ then _ else _ : UInt64).toNat = _
  rw [show (GI.toZ (Bq (Ad v : UInt64) (UInt64.ofNat (2 ^ k)))) = ((v.toNat / 2 ^ k : Nat) : Int) by rw [Hv, e], show GI.toZ (48 : UInt64) = 48 from rfl]
  split
  ·rw [e]; omega
  ·show 48 = _; omega
 rw [e2, Atv (by rw [UInt64.toNat_ofNat', Nat.mod_eq_of_lt] <;> omega), UInt64.toNat_ofNat', Nat.mod_eq_of_lt (by omega)]
theorem Bop {p : List UInt8} {N : Nat} (h : okB p N) (a k : Nat) (hk : k ≤ 24) : Xt p (N : Int) (a : Int) (k : Int) = some (rcS p N a k) := by
 obtain ⟨hN, hl, hz⟩ := h
 have h : okB p N := ⟨hN, hl, hz⟩
 rw [Xt, Ye]
 by_cases ha : N ≤ a
 ·rw [if_pos (by rw [Ci]; simp; omega), rcS, if_pos ha]
 have hle := Ajq p (min 48 (N - a)) a
 rw [if_neg (by rw [Ci]; simp; omega), Bpt h a (by omega), Aa, unR]
 by_cases h1 : Fb p a (min 48 (N - a)) < min 48 (N - a)
 ·have hS : rcS p N a k = if N < a + Fb p a (min 48 (N - a)) + 1 + k then (0, 0, 24) else (UInt32.ofNat (Fb p a (min 48 (N - a)) * 2 ^ k + Bt p (a + Fb p a (min 48 (N - a)) + 1) k), ((a + Fb p a (min 48 (N - a)) + 1 + k : Nat) : Int), 0) := by rw [rcS, if_neg ha, if_pos h1]
  rw [Bnb h1, hS]
  generalize Fb p a (min 48 (N - a)) = q at *
  rw [if_pos rfl]
  simp only
  rw [if_neg (by rw [Az]; simp; omega), Pp, Yn, Bw (by omega) (by omega)]
  by_cases h2 : N < a + q + 1 + k
  ·rw [if_pos (by simp [Af]; omega), if_pos h2]
  ·have hp : 2 ^ k ≤ 2 ^ 24 := Nat.pow_le_pow_right (by omega) hk
   have hm : q * 2 ^ k ≤ 47 * 2 ^ 24 := Nat.mul_le_mul (by omega) hp
   have hv := Rq p k (a + q + 1)
   have e : (Ad (Ae (Bb (Ad (q : Int) : UInt64) (UInt64.ofNat (2 ^ k))) (Wz p (a + q + 1) k)) : UInt32) = UInt32.ofNat (q * 2 ^ k + Bt p (a + q + 1) k) := by
    have e1 : Ae (Bb (Ad (q : Int) : UInt64) (UInt64.ofNat (2 ^ k))) (Wz p (a + q + 1) k) = UInt64.ofNat (q * 2 ^ k + Bt p (a + q + 1) k) := by
     rw [Afn, Aff, Aa9, Wz, UInt64.ofNat_add, UInt64.ofNat_mul]
    rw [e1]
    have e2 : ∀ x : UInt64, (Ad x : UInt32) = UInt32.ofNat x.toNat := fun x => by simp only [Ad, Hv, Di]
    rw [e2, UInt64.toNat_ofNat', Nat.mod_eq_of_lt (by omega)]
   rw [if_neg (by simp [Af]; omega), if_neg h2, Ari p _ _ k (by omega) (by omega), Aa, if_pos (by rw [Af]; simp; omega), Ae8 k (by omega), Aa, e, Ag (by omega) (by omega)]; rfl
 ·by_cases h2 : Fb p a (min 48 (N - a)) = 48
  ·have hS : rcS p N a k = if N < a + 48 + 32 then (0, 0, 24) else if Bt p (a + 48) 32 / 2 ^ k < 48 then (0, 0, 12) else (UInt32.ofNat (Bt p (a + 48) 32), ((a + 48 + 32 : Nat) : Int), 0) := by rw [rcS, if_neg ha, if_neg h1, if_pos h2]
   rw [Bpx h1 h2, hS, if_pos rfl]
   simp only
   rw [if_pos (by rw [Az]; rfl), Pp, Yn, Bw (by omega) (by omega)]
   by_cases h3 : N < a + 48 + 32
   ·rw [if_pos (by simp [Af]; omega), if_pos h3]
   ·have hg := Ari p (N : Int) (a + 48) 32 (by omega) (by omega)
    have hv := Be2 p (a + 48) (n := 32) (by omega)
    rw [if_neg (by simp [Af]; omega), if_neg h3]
    refine Eq.trans (congrArg (fun o => Option.bind o _) hg) ?_
    rw [Aa, if_neg (by rw [Af]; simp), Asy (by omega), Bqj _ k hk, Aa, Al5 hv]
    by_cases h4 : Bt p (a + 48) 32 / 2 ^ k < 48
    ·rw [if_pos (by rw [Af]; simp; omega), if_pos h4]
    ·rw [if_neg (by rw [Af]; simp; omega), if_neg h4, Ag (by omega) (by omega)]; rfl
  ·rw [Bps h1 h2, rcS, if_neg ha, if_neg h1, if_neg h2]
   have e : (if ((0 : Int), (0 : Int), (24 : Int)).2.2 = 0 then (((0 : Int), (0 : Int), (24 : Int)).1, ((0 : Int), (0 : Int), (24 : Int)).2.1) else ((-1 : Int), (0 : Int))) = (-1, 0) := by decide
   rw [e]; rfl
theorem Bus {p : List UInt8} {N a k : Nat} {v : UInt32} {n : Int} (h : rcS p N a k = (v, n, 0)) : (a : Int) < n ∧ n ≤ N := by
 unfold rcS at h
 split at h
 ·simp at h
 split at h
 ·split at h
  ·simp at h
  ·simp only [Prod.mk.injEq] at h; omega
 ·split at h
  ·split at h
   ·simp at h
   ·split at h
    ·simp at h
    ·simp only [Prod.mk.injEq] at h; omega
  ·simp at h
end Go.Pl
set_option linter.unusedVariables false
set_option linter.unusedSimpArgs false
namespace Go.Pl
open Go Go.Lv
def okD (k l : Nat) (s t : UInt64) : Prop := k ≤ 24 ∧ l ≤ 24 ∧ s.toNat ≤ 68719476735 ∧ t.toNat ≤ 68719476735
theorem Bfq (a b : UInt64) (h : a.toNat ≤ b.toNat) : Gs a b = a := by
 show (if _ then _ else _) = _
 rw [Hv, Hv, if_neg (by omega)]
theorem Ast (a : UInt64) : geq a a = true := by rw [Avr]; simp
theorem Bul {k l : Nat} {s t : UInt64} (h : okD k l s t) : Alz (k : Int) (l : Int) s t = some 0 := by
 obtain ⟨h1, h2, h3, h4⟩ := h
 have e1 : Gs (An1 (k : Int) 0) 24 = (k : Int) := by rw [Akv, Bgj]; omega
 have e2 : Gs (An1 (l : Int) 0) 24 = (l : Int) := by rw [Akv, Bgj]; omega
 have e3 : Gs s (68719476735 : UInt64) = s := Bfq _ _ (by simpa using h3)
 have e4 : Gs t (68719476735 : UInt64) = t := Bfq _ _ (by simpa using h4)
 have e5 : ∀ a : Int, geq a a = true := fun a => by rw [Az]; simp
 rw [Alz, Aek, Akl, Aej, Aj0, Aql, e1, e2, e3, e4, e5, e5, Ast, Ast]; rfl
def Abs (s n : UInt64) : UInt64 := s + n - s / 16
def kS (k : Nat) (s : UInt64) : Nat := if 0 < k ∧ s.toNat < 2 ^ (k + 4) then k - 1 else if k < 24 ∧ 2 ^ (k + 5) < s.toNat then k + 1 else k
theorem Bta {k : Nat} (h : k ≤ 24) (s : UInt64) : kS k s ≤ 24 := by
 unfold kS
 by_cases h1 : 0 < k ∧ s.toNat < 2 ^ (k + 4)
 ·rw [if_pos h1]; omega
 ·rw [if_neg h1]; split <;> omega
theorem Bj3 {k : Nat} {s : UInt64} (h : ¬ (0 < k ∧ s.toNat < 2 ^ (k + 4))) : (if k < 24 ∧ 2 ^ (k + 5) < s.toNat then ((k + 1 : Nat) : Int) else (k : Int)) = ((kS k s : Nat) : Int) := by
 rw [kS, if_neg h]; split <;> rfl
theorem Bik {s n : UInt64} (h : s.toNat ≤ 68719476735) (hn : n.toNat ≤ 4294967295) : (Abs s n).toNat ≤ 68719476735 := by
 have h1 := s.toNat_lt
 have e : (s + n).toNat = s.toNat + n.toNat := by rw [UInt64.toNat_add]; omega
 have e2 : (s / 16).toNat = s.toNat / 16 := by rw [UInt64.toNat_div]; rfl
 rw [Abs, UInt64.toNat_sub_of_le _ _ (by rw [UInt64.le_iff_toNat_le, e, e2]; omega), e, e2]; omega
theorem Ay1 (s n : UInt64) : Ae s (Ao n (Cd s (GI.toZ (4 : UInt64)).toNat)) = Abs s n := by
 have e : Cd s (GI.toZ (4 : UInt64)).toNat = s / 16 := by
  apply UInt64.toNat_inj.1
  rw [Afs, UInt64.toNat_div]; rfl
 rw [e, Afn, Axl, Abs, UInt64.sub_eq_add_neg, UInt64.sub_eq_add_neg, UInt64.add_assoc]
theorem Bjd (s n : UInt64) : Ao (Ae s n) (Bq s (16 : UInt64)) = Abs s n := by rw [Afn, Axl, Ar4, Abs]
theorem Bv8 {k : Nat} (h : k ≤ 24) : (Fc (16 : UInt64) k).toNat = 2 ^ (k + 4) := by
 have hp : 2 ^ k ≤ 2 ^ 24 := Nat.pow_le_pow_right (by omega) h
 rw [Ak5, Nat.pow_add]
 show 16 * 2 ^ k % _ = 2 ^ k * 16
 rw [Nat.mod_eq_of_lt (by omega), Nat.mul_comm]
theorem Btp {k : Nat} (h : k ≤ 24) : (Fc (32 : UInt64) k).toNat = 2 ^ (k + 5) := by
 have hp : 2 ^ k ≤ 2 ^ 24 := Nat.pow_le_pow_right (by omega) h
 rw [Ak5, Nat.pow_add]
 show 32 * 2 ^ k % _ = 2 ^ k * 32
 rw [Nat.mod_eq_of_lt (by omega), Nat.mul_comm]
theorem Bs7 {k : Nat} {s : UInt64} (h : 0 < k) (h2 : s.toNat < 2 ^ (k + 4)) : kS k s = k - 1 := by rw [kS, if_pos ⟨h, h2⟩]
theorem Bs6 {k : Nat} {s : UInt64} (h : ¬ (0 < k ∧ s.toNat < 2 ^ (k + 4))) (h2 : k < 24) (h3 : 2 ^ (k + 5) < s.toNat) : kS k s = k + 1 := by rw [kS, if_neg h, if_pos ⟨h2, h3⟩]
theorem Bjy {k : Nat} {s : UInt64} (h : ¬ (0 < k ∧ s.toNat < 2 ^ (k + 4))) (h2 : ¬ (k < 24 ∧ 2 ^ (k + 5) < s.toNat)) : kS k s = k := by rw [kS, if_neg h, if_neg h2]
theorem Bs0 {α : Type} (k : Nat) (hk : k ≤ 24) (s : UInt64) (f : Int → Option α) :
  (if (Cu (k : Int) (0 : Int)) = true then (
   Option.bind (Oz (Nc (k : Int) (0 : Int))) fun _ =>
   if (Cj s (Fc (16 : UInt64) (GI.toZ (k : Int)).toNat)) = true then f (Ao (k : Int) (1 : Int))
   else (if (Cj (k : Int) (24 : Int)) = true then (
    Option.bind (Oz (Nc (k : Int) (0 : Int))) fun _ =>
    if (Cu s (Fc (32 : UInt64) (GI.toZ (k : Int)).toNat)) = true then f (Ae (k : Int) (1 : Int)) else f (k : Int))
    else f (k : Int)))
  else (if (Cj (k : Int) (24 : Int)) = true then (
    Option.bind (Oz (Nc (k : Int) (0 : Int))) fun _ =>
    if (Cu s (Fc (32 : UInt64) (GI.toZ (k : Int)).toNat)) = true then f (Ae (k : Int) (1 : Int)) else f (k : Int))
    else f (k : Int))) = f ((kS k s : Nat) : Int) := by
 have z : (GI.toZ (k : Int)).toNat = k := rfl
 rw [z, Ca (by rw [Ci]; simp)]
 simp only [Aa]
 rw [Avm, Ajy, Bv8 hk, Btp hk]
 by_cases h0 : 0 < k
 ·rw [if_pos (by rw [Ap]; simp; omega)]
  by_cases h1 : s.toNat < 2 ^ (k + 4)
  ·rw [if_pos (by simp [h1]), Bs7 h0 h1, Bw (by omega) (by omega)]; congr 1; omega
  ·rw [if_neg (by simp; omega)]
   by_cases h2 : k < 24
   ·rw [if_pos (by rw [Af]; simp; omega)]
    by_cases h3 : 2 ^ (k + 5) < s.toNat
    ·rw [if_pos (by simp [h3]), Bs6 (fun h => h1 h.2) h2 h3, Ag (by omega) (by omega)]; rfl
    ·rw [if_neg (by simp; omega), Bjy (fun h => h1 h.2) (fun h => h3 h.2)]
   ·rw [if_neg (by rw [Af]; simp; omega), Bjy (fun h => h1 h.2) (fun h => h2 h.1)]
 ·rw [if_neg (by rw [Ap]; simp; omega)]
  by_cases h2 : k < 24
  ·rw [if_pos (by rw [Af]; simp; omega)]
   by_cases h3 : 2 ^ (k + 5) < s.toNat
   ·rw [if_pos (by simp [h3]), Bs6 (fun h => h0 h.1) h2 h3, Ag (by omega) (by omega)]; rfl
   ·rw [if_neg (by simp; omega), Bjy (fun h => h0 h.1) (fun h => h3 h.2)]
  ·rw [if_neg (by rw [Af]; simp; omega), Bjy (fun h => h0 h.1) (fun h => h2 h.1)]
theorem Bjk (k : Nat) (hk : k ≤ 24) (s n : UInt64) : Gz (k : Int) s n = some (((kS k (Abs s n) : Nat) : Int), Abs s n) := by
 have g1 : Ae (k : Int) 4 = ((k + 4 : Nat) : Int) := by rw [Ag (by omega) (by omega)]; omega
 have g2 : Ae (k : Int) 5 = ((k + 5 : Nat) : Int) := by rw [Ag (by omega) (by omega)]; omega
 have hp : Nh (k : Int) s n = some (if k < 24 ∧ 2 ^ (k + 5) < (Abs s n).toNat then ((k + 1 : Nat) : Int) else (k : Int), Abs s n) := by
  rw [Nh, Afh, g2, Ae8 _ (by omega), Aa, Bjd, Ajy, Aje (by omega)]
  by_cases h2 : k < 24
  ·rw [if_pos (by rw [Af]; simp; omega)]
   by_cases h3 : 2 ^ (k + 5) < (Abs s n).toNat
   ·rw [if_pos (by simp [h3]), if_pos ⟨h2, h3⟩, Ag (by omega) (by omega)]; rfl
   ·rw [if_neg (by simp; omega), if_neg (fun h => h3 h.2)]
  ·rw [if_neg (by rw [Af]; simp; omega), if_neg (fun h => h2 h.1)]
 rw [Gz, Wl, g1, Ae8 _ (by omega), Aa, Bjd, Avm, Aje (by omega), hp]
 by_cases h0 : 0 < k
 ·rw [if_pos (by rw [Ap]; simp; omega)]
  by_cases h1 : (Abs s n).toNat < 2 ^ (k + 4)
  ·rw [if_pos (by simp [h1]), Bs7 h0 h1, Bw (by omega) (by omega)]; congr 2; omega
  ·rw [if_neg (by simp; omega), Bj3 (fun h => h1 h.2)]
 ·rw [if_neg (by rw [Ap]; simp; omega), Bj3 (fun h => h0 h.1)]
def n64 (v : UInt32) : UInt64 := UInt64.ofNat v.toNat
theorem Bn0 (v : UInt32) : (n64 v).toNat ≤ 4294967295 := by have := v.toNat_lt; rw [n64, UInt64.toNat_ofNat', Nat.mod_eq_of_lt (by omega)]; omega
def Auz (k : Nat) (v : UInt32) : UInt32 := UInt32.ofNat (v.toNat - 2 ^ k)
def lK (l : Nat) (t : UInt64) (k : Nat) (v : UInt32) : Nat := if v.toNat < 2 ^ k then l else kS l (Abs t (n64 (Auz k v)))
def lT (t : UInt64) (k : Nat) (v : UInt32) : UInt64 := if v.toNat < 2 ^ k then t else Abs t (n64 (Auz k v))
theorem Bpm {k l : Nat} {s t : UInt64} (h : okD k l s t) (v : UInt32) : okD (kS k (Abs s (n64 v))) (lK l t k v) (Abs s (n64 v)) (lT t k v) := by
 obtain ⟨h1, h2, h3, h4⟩ := h
 refine ⟨Bta h1 _, ?_, Bik h3 (Bn0 v), ?_⟩
 ·unfold lK; split; · exact h2
  exact Bta h2 _
 ·unfold lT; split; · exact h4
  exact Bik h4 (Bn0 _)
theorem Bue (k l : Nat) (s t : UInt64) (hk : k ≤ 24) (v : UInt32) : Qw (k : Int) (l : Int) s t v = some (decide (v.toNat < 2 ^ k)) := by
 have := v.toNat_lt
 rw [Qw, Ae8 k (by omega), Aa, Avm, Aje (by omega), Ht, UInt64.toNat_ofNat', Nat.mod_eq_of_lt (by omega)]
theorem left_eq (k l : Nat) (s t : UInt64) (hk : k ≤ 24) (v : UInt32) (h : ¬ v.toNat < 2 ^ k) : Je (k : Int) (l : Int) s t v = some (Auz k v) := by
 have := v.toNat_lt
 have e2 : ∀ x : UInt64, (Ad x : UInt32) = UInt32.ofNat x.toNat := fun x => by simp only [Ad, Hv, Di]
 have e3 : (UInt64.ofNat v.toNat).toNat = v.toNat := by rw [UInt64.toNat_ofNat', Nat.mod_eq_of_lt (by omega)]
 rw [Je, Ae8 k (by omega), Aa, e2, Axl, Ht, UInt64.toNat_sub_of_le _ _ (by rw [UInt64.le_iff_toNat_le, Aje (by omega), e3]; omega), Aje (by omega), e3, Auz]
theorem Bl6 {k l : Nat} {s t : UInt64} (h : okD k l s t) (v : UInt32) : Pb (k : Int) (l : Int) s t v = some (((kS k (Abs s (n64 v)) : Nat) : Int), ((lK l t k v : Nat) : Int), Abs s (n64 v), lT t k v) := by
 obtain ⟨h1, h2, h3, h4⟩ := h
 have hp : ∀ (r1 : Int) (r2 : UInt64), Ko v (k : Int) (l : Int) s t r1 r2 = some (((kS k (Abs s (n64 v)) : Nat) : Int), r1, Abs s (n64 v), r2) := by
  intro r1 r2
  rw [Ko, Acn, Ht, Bjk k h1, Aa]; rfl
 rw [Pb, Kj, Bue k l s t h1, Aa]
 by_cases hv : v.toNat < 2 ^ k
 ·rw [if_neg (by simp [hv]), hp, lK, if_pos hv, lT, if_pos hv]
 ·rw [if_pos (by simp; omega), left_eq k l s t h1 v hv, Aa, Ht, Bjk l h2, Aa]
  simp only
  rw [hp, lK, if_neg hv, lT, if_neg hv]; rfl
theorem Bmy (k l : Nat) (s t : UInt64) (hk : k ≤ 24) (v : UInt32) : Amd (k : Int) (l : Int) s t v = some (if v.toNat < 2 ^ k then (0, v) else (1, Auz k v)) := by
 have hp : 2 ^ k ≤ 2 ^ 24 := Nat.pow_le_pow_right (by omega) hk
 have hpos : 0 < 2 ^ k := Nat.pow_pos (by omega)
 have hl := v.toNat_lt
 have z : (GI.toZ (k : Int)).toNat = k := rfl
 have e1 : geq (Cd v k) (0 : UInt32) = decide (v.toNat < 2 ^ k) := by
  rw [Bbz, Bool.eq_iff_iff]
  simp only [beq_iff_eq, ← UInt32.toNat_inj, Ak0, decide_eq_true_eq]
  show _ / _ = 0 ↔ _
  rw [Nat.div_eq_zero_iff]; omega
 have e2 : ¬ v.toNat < 2 ^ k → Ao v (Fc (1 : UInt32) k) = Auz k v := by
  intro h
  have e3 : (Fc (1 : UInt32) k).toNat = 2 ^ k := by rw [Ayu]; show 1 * 2 ^ k % _ = _; rw [Nat.mod_eq_of_lt (by omega), Nat.one_mul]
  apply UInt32.toNat_inj.1
  rw [Bfy, UInt32.toNat_sub_of_le _ _ (by rw [UInt32.le_iff_toNat_le, e3]; omega), e3, Auz, Al5 (by omega)]
 rw [Amd, Ca (by rw [Ci]; simp), Aa, Aa, z, e1]
 by_cases h : v.toNat < 2 ^ k
 ·rw [if_pos (by simp [h]), if_pos h]
 ·rw [if_neg (by simp; omega), if_neg h, e2 h]
abbrev Rd := UInt32 × Int × Int × Int × UInt64 × UInt64 × Int
theorem Awt {k l : Nat} {s t : UInt64} (h : okD k l s t) (v : UInt32) (r : Int) : Ahd (k : Int) (l : Int) s t v r = some (v, r, ((kS k (Abs s (n64 v)) : Nat) : Int), ((lK l t k v : Nat) : Int), Abs s (n64 v), lT t k v, 0) := by
 obtain ⟨h1, h2, h3, h4⟩ := h
 have hp : ∀ (x : Int) (y : UInt64), Ab6 v r (k : Int) s x y = some (v, r, ((kS k (Abs s (n64 v)) : Nat) : Int), x, Abs s (n64 v), y, 0) := by
  intro x y
  rw [Ab6, Al1, Ht, Ay1, Bs0 k h1]
  rw [Amz, Amm, Akq, Aqo, Ht, Ay1]; rfl
 rw [Ahd, Amf, Bmy k l s t h1, Aa]
 by_cases hv : v.toNat < 2 ^ k
 ·rw [if_pos hv]
  simp only
  rw [if_neg (by rw [Az]; simp), hp, lK, if_pos hv, lT, if_pos hv]
 ·rw [if_neg hv]
  simp only
  rw [if_pos (by rw [Az]; rfl), Ht, Ay1, Bs0 l h2 _ (fun x => Ab6 v r (k : Int) s x (Abs t (UInt64.ofNat (Auz k v).toNat))), hp, lK, if_neg hv, lT, if_neg hv]; rfl
def dgS (p : List UInt8) (N a k l : Nat) : UInt32 × Int × Int :=
 if N ≤ a then (0, 0, 24) else
 if Ji p a = 0 then (if N < a + 1 + k then (0, 0, 24) else (UInt32.ofNat (Bt p (a + 1) k), ((a + 1 + k : Nat) : Int), 0)) else
 if (rcS p N (a + 1) l).2.2 ≠ 0 then (0, 0, (rcS p N (a + 1) l).2.2) else
 if 4294967295 < (rcS p N (a + 1) l).1.toNat + 2 ^ k then (0, 0, 12) else (UInt32.ofNat ((rcS p N (a + 1) l).1.toNat + 2 ^ k), (rcS p N (a + 1) l).2.1, 0)
theorem Btt {p : List UInt8} {N a k l : Nat} (h : (dgS p N a k l).2.2 = 0) : (a : Int) < (dgS p N a k l).2.1 ∧ (dgS p N a k l).2.1 ≤ N := by
 revert h
 unfold dgS
 split
 ·simp
 split
 ·split
  ·simp
  ·simp only; omega
 ·split
  ·intro h; contradiction
  ·rename_i h1
   split
   ·simp
   ·intro _
    have := Bus (p := p) (N := N) (a := a + 1) (k := l) (v := (rcS p N (a + 1) l).1) (n := (rcS p N (a + 1) l).2.1) (by
     have e : (rcS p N (a + 1) l).2.2 = 0 := by simpa using h1
     rw [← e])
    simp only; omega
theorem Brj {p : List UInt8} {N : Nat} (h : okB p N) (a : Nat) {k l : Nat} {s t : UInt64} (hd : okD k l s t) : Aea p (N : Int) (a : Int) (k : Int) (l : Int) s t =
  some (if (dgS p N a k l).2.2 ≠ 0 then (0, 0, 0, 0, 0, 0, (dgS p N a k l).2.2) else ((dgS p N a k l).1, (dgS p N a k l).2.1, ((kS k (Abs s (n64 (dgS p N a k l).1)) : Nat) : Int), ((lK l t k (dgS p N a k l).1 : Nat) : Int), Abs s (n64 (dgS p N a k l).1), lT t k (dgS p N a k l).1, 0)) := by
 obtain ⟨h1, h2, h3, h4⟩ := hd
 have hd : okD k l s t := ⟨h1, h2, h3, h4⟩
 have hN := h.1
 have hg := Aud h a 1 (by omega)
 have hb := Zh p a
 rw [Aea, Ane, Ahi h, Aa, if_neg (by rw [Al]; simp), Bul hd, Aa, if_neg (by rw [Al]; simp), Am7, Amu]
 refine Eq.trans (congrArg (fun o => Option.bind o _) hg) ?_
 rw [Aa]
 by_cases ha : N ≤ a
 ·have hS : dgS p N a k l = (0, 0, 24) := by rw [dgS, if_pos ha]
  rw [if_pos (by omega), hS]; rfl
 rw [if_neg (by omega)]
 simp only
 have e0 : geq (Wz p a 1) (0 : UInt64) = decide (Ji p a = 0) := by
  rw [Avr, Bool.eq_iff_iff]
  simp only [beq_iff_eq, ← UInt64.toNat_inj, decide_eq_true_eq, Ack p a 1 (by omega), Bfk]; rfl
 have e1 : Ae (a : Int) 1 = ((a + 1 : Nat) : Int) := by rw [Ag (by omega) (by omega)]; omega
 rw [if_neg (by rw [Al]; simp), e0, e1]
 by_cases hz : Ji p a = 0
 ·rw [if_pos (by simp [hz]), Aud h (a + 1) k (by omega), Aa]
  by_cases h5 : N < a + 1 + k
  ·have hS : dgS p N a k l = (0, 0, 24) := by rw [dgS, if_neg ha, if_pos hz, if_pos h5]
   rw [if_pos h5, hS]; rfl
  ·have hS : dgS p N a k l = (UInt32.ofNat (Bt p (a + 1) k), ((a + 1 + k : Nat) : Int), 0) := by rw [dgS, if_neg ha, if_pos hz, if_neg h5]
   rw [if_neg h5, hS]
   simp only
   rw [if_neg (by rw [Al]; simp), Awt hd, Asy (by omega), Ag (by omega) (by omega)]; rfl
 ·rw [if_neg (by simp [hz]), Br0 h (a + 1) l h2, Aa]
  have hp : 2 ^ k ≤ 2 ^ 24 := Nat.pow_le_pow_right (by omega) h1
  by_cases h5 : (rcS p N (a + 1) l).2.2 ≠ 0
  ·have hS : dgS p N a k l = (0, 0, (rcS p N (a + 1) l).2.2) := by rw [dgS, if_neg ha, if_neg hz, if_pos h5]
   rw [hS]
   generalize rcS p N (a + 1) l = R at *
   obtain ⟨v, n, e⟩ := R
   simp only at *
   rw [if_pos (by rw [Al]; simpa using h5), if_pos h5]
  ·have hv := (rcS p N (a + 1) l).1.toNat_lt
   have z : (GI.toZ (k : Int)).toNat = k := rfl
   have e3 : (Fc (1 : UInt32) k).toNat = 2 ^ k := by rw [Ayu]; show 1 * 2 ^ k % _ = _; rw [Nat.mod_eq_of_lt (by omega), Nat.one_mul]
   by_cases h6 : 4294967295 < (rcS p N (a + 1) l).1.toNat + 2 ^ k
   ·have hS : dgS p N a k l = (0, 0, 12) := by rw [dgS, if_neg ha, if_neg hz, if_neg h5, if_pos h6]
    rw [hS]
    generalize rcS p N (a + 1) l = R at *
    obtain ⟨v, n, e⟩ := R
    simp only at *
    rw [if_neg (by rw [Al]; simpa using h5), Ca (by rw [Ci]; simp), Aa, z, if_pos (by rw [Bii, Ayk, UInt32.toNat_add, e3]; simp; omega), if_pos (by decide)]
   ·have hS : dgS p N a k l = (UInt32.ofNat ((rcS p N (a + 1) l).1.toNat + 2 ^ k), (rcS p N (a + 1) l).2.1, 0) := by rw [dgS, if_neg ha, if_neg hz, if_neg h5, if_neg h6]
    rw [hS]
    generalize rcS p N (a + 1) l = R at *
    obtain ⟨v, n, e⟩ := R
    simp only at *
    have e4 : Ae v (Fc (1 : UInt32) k) = UInt32.ofNat (v.toNat + 2 ^ k) := by
     apply UInt32.toNat_inj.1
     rw [Ayk, UInt32.toNat_add, e3, Al5 (by omega), Nat.mod_eq_of_lt (by omega)]
    rw [if_neg (by rw [Al]; simpa using h5), Ca (by rw [Ci]; simp), Aa, z, if_neg (by rw [Bii, Ayk, UInt32.toNat_add, e3]; simp; omega), e4, Awt hd]; rfl
theorem Boo {p : List UInt8} {N : Nat} (h : okB p N) (a : Nat) (k l : Nat) (s t : UInt64) (h1 : k ≤ 24) (h2 : l ≤ 24) : Xu p (N : Int) (a : Int) (k : Int) (l : Int) s t = some (dgS p N a k l) := by
 have hN := h.1
 have hl := h.2.1
 have hb := Zh p a
 rw [Xu]
 by_cases ha : N ≤ a
 ·rw [if_pos (by rw [Ci]; simp; omega), dgS, if_pos ha]
 rw [if_neg (by rw [Ci]; simp; omega), At8 p _ a (by omega) (by omega), Aa, Bw (a := (N : Int)) (b := (a : Int)) (by omega) (by omega), Bw (by omega) (by omega)]
 have e1 : Ae (a : Int) 1 = ((a + 1 : Nat) : Int) := by rw [Ag (by omega) (by omega)]; omega
 rw [e1]
 by_cases hz : Ji p a = 0
 ·rw [if_pos (by rw [Az]; simp [hz])]
  by_cases h5 : N < a + 1 + k
  ·rw [if_pos (by rw [Af]; simp; omega), dgS, if_neg ha, if_pos hz, if_pos h5]
  ·rw [if_neg (by rw [Af]; simp; omega), Ari p _ (a + 1) k (by omega) (by omega), Aa, dgS, if_neg ha, if_pos hz, if_neg h5, Asy (by omega), Ag (by omega) (by omega)]; rfl
 ·rw [if_neg (by rw [Az]; simp; omega), Bop h (a + 1) l h2, Aa]
  have hp : 2 ^ k ≤ 2 ^ 24 := Nat.pow_le_pow_right (by omega) h1
  have hv := (rcS p N (a + 1) l).1.toNat_lt
  have e2 : ∀ x : UInt64, (Ad x : UInt32) = UInt32.ofNat x.toNat := fun x => by simp only [Ad, Hv, Di]
  by_cases h5 : (rcS p N (a + 1) l).2.2 ≠ 0
  ·have hS : dgS p N a k l = (0, 0, (rcS p N (a + 1) l).2.2) := by rw [dgS, if_neg ha, if_neg hz, if_pos h5]
   rw [hS]
   generalize rcS p N (a + 1) l = R at *
   obtain ⟨v, n, e⟩ := R
   simp only at *
   rw [if_pos (by rw [Al]; simpa using h5)]
  ·have hsum : ∀ v : UInt32, (Ae (Ad v : UInt64) (UInt64.ofNat (2 ^ k))).toNat = v.toNat + 2 ^ k := by
    intro v
    have := v.toNat_lt
    have := Nat.pow_pos (n := k) (show 0 < 2 by omega)
    rw [Afn, UInt64.toNat_add, Ht, Aje (by omega), UInt64.toNat_ofNat']; omega
   by_cases h6 : 4294967295 < (rcS p N (a + 1) l).1.toNat + 2 ^ k
   ·have hS : dgS p N a k l = (0, 0, 12) := by rw [dgS, if_neg ha, if_neg hz, if_neg h5, if_pos h6]
    rw [hS]
    generalize rcS p N (a + 1) l = R at *
    obtain ⟨v, n, e⟩ := R
    simp only at *
    rw [if_neg (by rw [Al]; simpa using h5), Ae8 k (by omega), Aa, if_pos (by rw [Ajy, hsum]; simpa using h6)]
   ·have hS : dgS p N a k l = (UInt32.ofNat ((rcS p N (a + 1) l).1.toNat + 2 ^ k), (rcS p N (a + 1) l).2.1, 0) := by rw [dgS, if_neg ha, if_neg hz, if_neg h5, if_neg h6]
    rw [hS]
    generalize rcS p N (a + 1) l = R at *
    obtain ⟨v, n, e⟩ := R
    simp only at *
    rw [if_neg (by rw [Al]; simpa using h5), Ae8 k (by omega), Aa, if_neg (by rw [Ajy, hsum]; simpa using h6), e2, hsum]
end Go.Pl
set_option linter.unusedVariables false
set_option linter.unusedSimpArgs false
namespace Go.Pl
open Go Go.Lv
abbrev DuN := Nat × Nat × UInt64 × UInt64
def okN (d : DuN) : Prop := okD d.1 d.2.1 d.2.2.1 d.2.2.2
def nxt (d : DuN) (v : UInt32) : DuN := (kS d.1 (Abs d.2.2.1 (n64 v)), lK d.2.1 d.2.2.2 d.1 v, Abs d.2.2.1 (n64 v), lT d.2.2.2 d.1 v)
def Bbj : DuN := (10, 10, 16384, 16384)
theorem Bpb : okN Bbj := ⟨by decide, by decide, by decide, by decide⟩
theorem Buw {d : DuN} (h : okN d) (v : UInt32) : okN (nxt d v) := Bpm h v
abbrev DuL := Int × Int × UInt64 × UInt64 × Unit
def toI (d : DuN) : DuL := ((d.1 : Int), (d.2.1 : Int), d.2.2.1, d.2.2.2, ())
def chP (ch : Nat) (v : List UInt32) (c : Nat) : Nat → DuN
 | 0 => Bbj
 | m + 1 => if m % ch = c then nxt (chP ch v c m) (v.getD m 0) else chP ch v c m
theorem Auf (ch : Nat) (v : List UInt32) (c : Nat) : ∀ m, okN (chP ch v c m)
 | 0 => Bpb
 | m + 1 => by rw [chP]; split; exact Buw (Auf ch v c m) _; exact Auf ch v c m
theorem Bio (ch : Nat) (v w : List UInt32) (c : Nat) : ∀ m, m ≤ v.length → chP ch (v ++ w) c m = chP ch v c m
 | 0, _ => rfl
 | m + 1, h => by
  have e : (v ++ w).getD m 0 = v.getD m 0 := by simp [List.getD_eq_getElem?_getD, List.getElem?_append_left (show m < v.length by omega)]
  rw [chP, chP, Bio ch v w c m (by omega), e]
theorem Bci (ch : Nat) (v : List UInt32) (c : Nat) : ∀ m, m ≤ c → c < ch → chP ch v c m = Bbj
 | 0, _, _ => rfl
 | m + 1, h, h2 => by rw [chP, if_neg (by rw [Nat.mod_eq_of_lt (by omega)]; omega), Bci ch v c m (by omega) h2]
theorem Be1 (ch : Nat) (v : List UInt32) (c i : Nat) (hi : i % ch = c) (hc : c < ch) : ∀ j, j < ch → chP ch v c (i + 1 + j) = chP ch v c (i + 1)
 | 0, _ => rfl
 | j + 1, h => by
  have hne : (i + 1 + j) % ch ≠ c := by
   intro e
   have h1 : (i + (1 + j)) % ch = i % ch := by rw [hi, ← e]; congr 1; omega
   have h2 : (1 + j) % ch = 0 := by
    have h3 := Nat.sub_mod_eq_zero_of_mod_eq h1
    rwa [Nat.add_sub_cancel_left] at h3
   rw [Nat.mod_eq_of_lt (by omega)] at h2; omega
  rw [show i + 1 + (j + 1) = (i + 1 + j) + 1 by omega, chP, if_neg hne, Be1 ch v c i hi hc j (by omega)]
theorem Bpi (ch : Nat) (v : List UInt32) (c i : Nat) (hi : i % ch = c) (hc : c < ch) : chP ch v c (i + ch) = nxt (chP ch v c i) (v.getD i 0) := by
 have h := Be1 ch v c i hi hc (ch - 1) (by omega)
 rw [show i + 1 + (ch - 1) = i + ch by omega] at h
 rw [h, chP, if_pos hi]
theorem Azc {l : List UInt32} {k : Nat} (h : k < l.length) : Aj l (k : Int) = some (l.getD k 0) := by
 rw [Cl h]; simp [List.getD_eq_getElem?_getD, h]
theorem Ar2 (a b : Nat) : Il (a : Int) (b : Int) = ((a % b : Nat) : Int) := by rw [Il, Int.tmod_eq_emod_of_nonneg (by omega)]; omega
theorem Au7 (ch : Nat) (v : List UInt32) (hch : 1 ≤ ch) (hch6 : ch ≤ 6) (hv : v.length ≤ 4000) : ∀ (j i q : Nat), i % ch = v.length % ch → i ≤ v.length → v.length - i ≤ j → j < q →
  Gx (ch : Int) v q (i : Int) ((chP ch v (v.length % ch) i).1 : Int) ((chP ch v (v.length % ch) i).2.1 : Int) (chP ch v (v.length % ch) i).2.2.1 (chP ch v (v.length % ch) i).2.2.2 =
   some (((chP ch v (v.length % ch) v.length).1 : Int), ((chP ch v (v.length % ch) v.length).2.1 : Int), (chP ch v (v.length % ch) v.length).2.2.1, (chP ch v (v.length % ch) v.length).2.2.2)
 | j, i, q + 1, hi, hl, hj, hq => by
  have hc : v.length % ch < ch := Nat.mod_lt _ (by omega)
  rw [Gx, Th]
  by_cases h : i < v.length
  ·have h1 := Bl6 (Auf ch v (v.length % ch) i) (v.getD i 0)
   rw [if_pos (by rw [Af, Ac]; simp; omega), Azc h, Aa, h1, Aa]
   have hle : i + ch ≤ v.length := by
    have h2 := Nat.div_add_mod i ch
    have h3 := Nat.div_add_mod v.length ch
    rw [hi] at h2
    have h4 : ch * (i / ch) < ch * (v.length / ch) := by omega
    have h5 := Nat.lt_of_mul_lt_mul_left h4
    have h6 : ch * (i / ch + 1) ≤ ch * (v.length / ch) := Nat.mul_le_mul_left _ h5
    rw [Nat.mul_add] at h6; omega
   have ih := Au7 ch v hch hch6 hv (j - ch) (i + ch) q (by rw [Nat.add_mod_right]; exact hi) hle (by omega) (by omega)
   rw [Bpi ch v _ i hi hc] at ih
   simp only
   rw [Ag (by omega) (by omega)]
   exact ih
  ·rw [if_neg (by rw [Af, Ac]; simp; omega), show i = v.length by omega]; rfl
theorem Blh (ch : Nat) (v : List UInt32) (hch : 1 ≤ ch) (hch6 : ch ≤ 6) (hv : v.length ≤ 4000) : Ke (ch : Int) v = some (((chP ch v (v.length % ch) v.length).1 : Int), ((chP ch v (v.length % ch) v.length).2.1 : Int), (chP ch v (v.length % ch) v.length).2.2.1, (chP ch v (v.length % ch) v.length).2.2.2) := by
 have hc : v.length % ch < ch := Nat.mod_lt _ (by omega)
 have hle : v.length % ch ≤ v.length := Nat.mod_le _ _
 have h := Au7 ch v hch hch6 hv v.length (v.length % ch) Ay (by rw [Nat.mod_mod]) hle (by omega) (by have := As; omega)
 rw [Bci ch v _ _ (Nat.le_refl _) hc] at h
 rw [Ke, Ry, Ii, Aa]
 simp only
 rw [Ca (by rw [Al]; simp; omega), Aa, Ac, Ar2]
 exact h
def now (ch : Nat) (v : List UInt32) : DuN := chP ch v (v.length % ch) v.length
def win (N a : Nat) : Nat := min 81 (N - a)
def Kn (ch : Nat) (p : List UInt8) (N a : Nat) (out : List UInt32) : UInt32 × Int × Int := dgS (Ad8 p a (win N a)) (win N a) 0 (now ch out).1 (now ch out).2.1
def Xp (ch : Nat) (p : List UInt8) (N : Nat) : Nat → Nat → List UInt32 → List UInt32 × Nat × Int
 | 0, a, out => (out, a, 0)
 | j + 1, a, out => if (Kn ch p N a out).2.2 ≠ 0 then (out, a, (Kn ch p N a out).2.2) else Xp ch p N j (a + (Kn ch p N a out).2.1.toNat) (out ++ [(Kn ch p N a out).1])
theorem Ap9 {ch : Nat} {p : List UInt8} {N a : Nat} {out : List UInt32} (h : (Kn ch p N a out).2.2 = 0) : 0 < (Kn ch p N a out).2.1 ∧ (Kn ch p N a out).2.1 ≤ win N a := by
 have := Btt h
 exact ⟨this.1, this.2⟩
theorem Bac {ch : Nat} {p : List UInt8} {N a : Nat} {out : List UInt32} (h : (Kn ch p N a out).2.2 = 0) : ((a : Int) + (Kn ch p N a out).2.1) = ((a + (Kn ch p N a out).2.1.toNat : Nat) : Int) := by
 have := Ap9 h; omega
def sts (ch : Nat) (v : List UInt32) : List DuL := (List.range 6).map fun c => toI (chP ch v c v.length)
theorem Bih {ch : Nat} {v : List UInt32} {c : Nat} (h : c < 6) : Aj (sts ch v) (c : Int) = some (toI (chP ch v c v.length)) := by
 rw [Cl (by simp [sts]; exact h)]; simp [sts]
theorem Brt {ch : Nat} {v : List UInt32} {c : Nat} (x : UInt32) (h : c < 6) (hc : c = v.length % ch) : Rb (sts ch v) (c : Int) (toI (nxt (chP ch v c v.length) x)) = some (sts ch (v ++ [x])) := by
 rw [Yh _ (by simp [sts]; exact h)]
 congr 1
 apply List.ext_getElem (by simp [sts])
 intro i h1 h2
 rw [List.getElem_set]
 simp only [sts, List.getElem_map, List.getElem_range]
 have e : (v ++ [x]).getD v.length 0 = x := by simp
 rw [List.length_append, List.length_singleton, chP, e, Bio ch v [x] i v.length (Nat.le_refl _)]
 by_cases hi : c = i
 ·subst hi; rw [if_pos rfl, if_pos hc.symm]
 ·rw [if_neg hi, if_neg (by omega)]
section
variable {p : List UInt8} {N ch n : Nat}
theorem Bew (hp : okB p N) (h1 : 1 ≤ ch) (h6 : ch ≤ 6) (hn : n * ch ≤ 4000) : ∀ (j a q : Nat) (out : List UInt32), out.length + j = n * ch → j < q → a ≤ N →
  Lc (ch : Int) (n : Int) p (N : Int) q (a : Int) (out.length : Int) (sts ch out) out =
   some (if (Xp ch p N j a out).2.2 ≠ 0 then ([], 0, (Xp ch p N j a out).2.2) else ((Xp ch p N j a out).1, ((Xp ch p N j a out).2.1 : Int), 0))
 | j, a, q + 1, out, hj, hq, ha => by
  have hN := hp.1
  have hnn : n ≤ n * ch := Nat.le_mul_of_pos_right n (by omega)
  have em : Bb (n : Int) (ch : Int) = ((n * ch : Nat) : Int) := by rw [Gt (by rw [← Int.natCast_mul]; omega) (by rw [← Int.natCast_mul]; omega), Int.natCast_mul]
  rw [Lc, Sk, em]
  cases j with
  | zero =>
   rw [if_neg (by rw [Af]; simp; omega)]; rfl
  | succ j =>
   have hc : out.length % ch < 6 := Nat.lt_of_lt_of_le (Nat.mod_lt _ (by omega)) h6
   have ew : Gs (Ae (a : Int) 81) (N : Int) = ((a + win N a : Nat) : Int) := by rw [Akv, Ag (by omega) (by omega)]; unfold win; omega
   have hw : a + win N a ≤ N := by unfold win; omega
   have hw2 : win N a ≤ 81 := by unfold win; omega
   have hd := Brj (Bij p a (win N a) (by omega)) 0 (Auf ch out (out.length % ch) out.length)
   have ecode : dgS (Ad8 p a (win N a)) (win N a) 0 (chP ch out (out.length % ch) out.length).1 (chP ch out (out.length % ch) out.length).2.1 = Kn ch p N a out := rfl
   rw [if_pos (by rw [Af]; simp; omega), ew, Bt4 hp a _ hw (by omega), Aa]
   simp only
   rw [if_neg (by rw [Al]; simp), Ca (by rw [Al]; simp; omega), Aa, Ar2, Bih hc, Aa, Aa]
   refine Eq.trans (congrArg (fun o => Option.bind o _) hd) ?_
   rw [Aa, ecode, Xp]
   by_cases he : (Kn ch p N a out).2.2 ≠ 0
   ·rw [if_pos he, if_pos he]
    simp only
    rw [Sy, Ri, if_pos (by rw [Al]; simpa using he), if_pos he]
   ·have he0 : (Kn ch p N a out).2.2 = 0 := by simpa using he
    have hok := Ap9 he0
    have hset := Brt (ch := ch) (v := out) (Kn ch p N a out).1 hc rfl
    rw [if_neg he, if_neg he]
    simp only
    rw [Sy, Ri, if_neg (by rw [Al]; simp), Ca (by rw [Al]; simp; omega), Aa, Ar2, Bih hc, Aa]
    refine Eq.trans (congrArg (fun o => Option.bind o _) hset) ?_
    rw [Aa, Zz, Aih, Eu (by simp; omega), Aa, Ag (by omega) (by omega), Ag (by omega) (by omega), Bac he0]
    have ih := Bew hp h1 h6 hn j (a + (Kn ch p N a out).2.1.toNat) q (out ++ [(Kn ch p N a out).1]) (by simp; omega) (by omega) (by omega)
    rw [List.length_append, List.length_singleton] at ih
    exact ih
theorem Bi2 {p : List UInt8} (hN : N = 8 * p.length) (hN2 : N ≤ 330000) (h1 : 1 ≤ ch) (h6 : ch ≤ 6) (hn : n * ch ≤ 4000) : ∀ (j a q : Nat) (out : List UInt32), out.length + j = n * ch → j < q → a ≤ N →
  Cp (ch : Int) (n : Int) p q (a : Int) (out.length : Int) out =
   if (Xp ch p N j a out).2.2 ≠ 0 then some ((Xp ch p N j a out).1, (Xp ch p N j a out).2.2) else Mc ((Xp ch p N j a out).2.1 : Int) p (Xp ch p N j a out).1
 | j, a, q + 1, out, hj, hq, ha => by
  have hnn : n ≤ n * ch := Nat.le_mul_of_pos_right n (by omega)
  have em : Bb (n : Int) (ch : Int) = ((n * ch : Nat) : Int) := by rw [Gt (by rw [← Int.natCast_mul]; omega) (by rw [← Int.natCast_mul]; omega), Int.natCast_mul]
  have e8 : Bb (8 : Int) (Ac p) = (N : Int) := by rw [Ac, Gt (by omega) (by omega)]; omega
  rw [Cp, Uy, em]
  cases j with
  | zero =>
   rw [if_neg (by rw [Af]; simp; omega)]; rfl
  | succ j =>
   have ew : Gs (Ae (a : Int) 81) (N : Int) = ((a + win N a : Nat) : Int) := by rw [Akv, Ag (by omega) (by omega)]; unfold win; omega
   have hw : a + win N a ≤ N := by unfold win; omega
   have hw2 : win N a ≤ 81 := by unfold win; omega
   have hpre : (Option.bind Ii fun (r_4, r_5, r_6, r_7) =>
     if (Nc (out.length : Int) (ch : Int)) = true then (
     Option.bind (Ke (ch : Int) out) fun (r_8, r_9, r_10, r_11) =>
     Fg (Cp (ch : Int) (n : Int) p q) (ch : Int) (n : Int) p (a : Int) (out.length : Int) out r_8 r_9 r_10 r_11)
     else Fg (Cp (ch : Int) (n : Int) p q) (ch : Int) (n : Int) p (a : Int) (out.length : Int) out r_4 r_5 r_6 r_7) =
     Fg (Cp (ch : Int) (n : Int) p q) (ch : Int) (n : Int) p (a : Int) (out.length : Int) out ((now ch out).1 : Int) ((now ch out).2.1 : Int) (now ch out).2.2.1 (now ch out).2.2.2 := by
    rw [Ii, Aa]
    by_cases hc : ch ≤ out.length
    ·simp only
     rw [if_pos (by rw [Ci]; simp; omega), Blh ch out h1 h6 (by omega), Aa]; rfl
    ·have e : now ch out = Bbj := by rw [now, Nat.mod_eq_of_lt (by omega), Bci ch out _ _ (Nat.le_refl _) (by omega)]
     simp only
     rw [if_neg (by rw [Ci]; simp; omega), e]; rfl
   have hd := Boo (Bij p a (win N a) (by omega)) 0 (now ch out).1 (now ch out).2.1 (now ch out).2.2.1 (now ch out).2.2.2 (Auf ch out _ _).1 (Auf ch out _ _).2.1
   have ecode : dgS (Ad8 p a (win N a)) (win N a) 0 (now ch out).1 (now ch out).2.1 = Kn ch p N a out := rfl
   rw [if_pos (by rw [Af]; simp; omega), hpre, Fg, Adk, e8, ew, Be8 p (N : Int) a _ (by omega) (by omega) (by omega), Aa]
   simp only
   refine Eq.trans (congrArg (fun o => Option.bind o _) hd) ?_
   rw [Aa, ecode, Xp]
   by_cases he : (Kn ch p N a out).2.2 ≠ 0
   ·rw [if_pos he, if_pos (by rw [Al]; simpa using he), if_pos he]
   ·have he0 : (Kn ch p N a out).2.2 = 0 := by simpa using he
    have hok := Ap9 he0
    have ih := Bi2 hN hN2 h1 h6 hn j (a + (Kn ch p N a out).2.1.toNat) q (out ++ [(Kn ch p N a out).1]) (by simp; omega) (by omega) (by omega)
    have hx := Bac he0
    rw [List.length_append, List.length_singleton] at ih
    rw [if_neg he]
    generalize Kn ch p N a out = R at *
    obtain ⟨v, nx, e⟩ := R
    simp only at *
    rw [if_neg (by rw [Al]; simpa using he), Eu (by simp; omega), Aa, Ag (by omega) (by omega), Ag (by omega) (by omega), hx]
    exact ih
end
theorem Av1 {ch : Nat} {p : List UInt8} {N : Nat} : ∀ (j a : Nat) (out : List UInt32), a ≤ N → (Xp ch p N j a out).2.1 ≤ N ∧ (Xp ch p N j a out).1.length ≤ out.length + j ∧ ((Xp ch p N j a out).2.2 = 0 → (Xp ch p N j a out).1.length = out.length + j)
 | 0, a, out, h => ⟨h, Nat.le_refl _, fun _ => rfl⟩
 | j + 1, a, out, h => by
  rw [Xp]
  split
  ·rename_i he
   exact ⟨h, by simp, fun e => absurd e he⟩
  ·rename_i he
   have hok := Ap9 (ch := ch) (p := p) (N := N) (a := a) (out := out) (by simpa using he)
   have hw : a + win N a ≤ N := by unfold win; omega
   have ih := Av1 (ch := ch) (p := p) (N := N) j (a + (Kn ch p N a out).2.1.toNat) (out ++ [(Kn ch p N a out).1]) (by omega)
   rw [List.length_append, List.length_singleton] at ih
   exact ⟨ih.1, by omega, fun e => by have := ih.2.2 e; omega⟩
theorem Bdf (ch n : Int) (b : List UInt8) (N : Int) : Tf ch n b N 0 (List.replicate 6 ((0 : Int), (0 : Int), (0 : UInt64), (0 : UInt64), ())) = Aap ch n b N (List.replicate 6 ((10 : Int), (10 : Int), (16384 : UInt64), (16384 : UInt64), ())) := by
 have e : Ay = (Ay - 7) + 1 + 1 + 1 + 1 + 1 + 1 + 1 := by have := As; omega
 rw [Tf, e]
 rfl
theorem values_eq {p : List UInt8} {N ch n : Nat} (hp : okB p N) (h1 : 1 ≤ ch) (h6 : ch ≤ 6) (hn : n * ch ≤ 4000) : Acl (ch : Int) (n : Int) p (N : Int) =
  some (if (Xp ch p N (n * ch) 0 []).2.2 ≠ 0 then ([], 0, (Xp ch p N (n * ch) 0 []).2.2) else ((Xp ch p N (n * ch) 0 []).1, ((Xp ch p N (n * ch) 0 []).2.1 : Int), 0)) := by
 have h := Bew hp h1 h6 hn (n * ch) 0 Ay [] (by simp) (by have := As; omega) (by omega)
 rw [Acl, Abz, Bdf]
 exact h
theorem Ba2 (p : List UInt8) (x : List UInt32) (N : Nat) (hN : N = 8 * p.length) (hN2 : N ≤ 330000) : ∀ (j a q : Nat), a + j = N → j < q → Fe p x q (a : Int) = some (x, if Bt p a j = 0 then 0 else 12)
 | 0, a, q + 1, ha, _ => by
  have e8 : Bb (8 : Int) (Ac p) = (N : Int) := by rw [Ac, Gt (by omega) (by omega)]; omega
  rw [Fe, Ln, e8, if_neg (by rw [Af]; simp; omega), Bt, if_pos rfl]; rfl
 | j + 1, a, q + 1, ha, hq => by
  have e8 : Bb (8 : Int) (Ac p) = (N : Int) := by rw [Ac, Gt (by omega) (by omega)]; omega
  have hb := Zh p a
  rw [Fe, Ln, e8, if_pos (by rw [Af]; simp; omega), At8 p _ a (by omega) (by omega), Aa, Bt]
  by_cases h : Ji p a = 0
  ·rw [if_neg (by rw [Al]; simp [h]), Ag (by omega) (by omega), h]
   have ih := Ba2 p x N hN hN2 j (a + 1) q (by omega) (by omega)
   rw [show ((a : Int) + 1) = ((a + 1 : Nat) : Int) by omega, ih]
   congr 2
   by_cases hv : Bt p (a + 1) j = 0
   ·rw [if_pos hv, if_pos (by omega)]
   ·rw [if_neg hv, if_neg (by omega)]
  ·rw [if_pos (by rw [Al]; simp; omega), if_neg (by omega)]
theorem Bjm {p : List UInt8} {N ch n : Nat} (hN : N = 8 * p.length) (hN2 : N ≤ 330000) (h1 : 1 ≤ ch) (h6 : ch ≤ 6) (hn : n * ch ≤ 4000) : Vs (ch : Int) (n : Int) p =
  some (if (Xp ch p N (n * ch) 0 []).2.2 ≠ 0 then ((Xp ch p N (n * ch) 0 []).1, (Xp ch p N (n * ch) 0 []).2.2) else
   ((Xp ch p N (n * ch) 0 []).1, if 7 < N - (Xp ch p N (n * ch) 0 []).2.1 ∨ Bt p (Xp ch p N (n * ch) 0 []).2.1 (N - (Xp ch p N (n * ch) 0 []).2.1) ≠ 0 then 12 else 0)) := by
 have h := Bi2 hN hN2 h1 h6 hn (n * ch) 0 Ay [] (by simp) (by have := As; omega) (by omega)
 have hat := (Av1 (ch := ch) (p := p) (N := N) (n * ch) 0 [] (by omega)).1
 have e8 : Bb (8 : Int) (Ac p) = (N : Int) := by rw [Ac, Gt (by omega) (by omega)]; omega
 rw [Vs, Wq]
 refine Eq.trans h ?_
 generalize Xp ch p N (n * ch) 0 [] = V at *
 obtain ⟨v, a, e⟩ := V
 simp only at *
 by_cases he : e ≠ 0
 ·rw [if_pos he, if_pos he]
 ·rw [if_neg he, if_neg he, Mc, Tx, e8, Bw (by omega) (by omega)]
  by_cases h7 : 7 < N - a
  ·rw [if_pos (by rw [Ap]; simp; omega), if_pos (.inl h7)]
  ·rw [if_neg (by rw [Ap]; simp; omega), Ua, Ba2 p v N hN hN2 (N - a) a Ay (by omega) (by have := As; omega)]
   by_cases hv : Bt p a (N - a) = 0
   ·rw [if_pos hv, if_neg (by omega)]
   ·rw [if_neg hv, if_pos (.inr hv)]
end Go.Pl
set_option linter.unusedVariables false
set_option linter.unusedSimpArgs false
namespace Go.Pl
open Go Go.Lv
theorem Bcy (n : Int) : (GI.ofZ n : Int32) = Int32.ofInt n := rfl
theorem Ajm (a : Int32) : GI.toZ a = a.toInt := rfl
theorem Alq (a b : Int32) : Ae a b = a + b := by
 rw [Ae, Ajm, Ajm, Bcy, Int32.ofInt_add, Int32.ofInt_toInt, Int32.ofInt_toInt]
theorem Awy (a b : Int32) : Ao a b = a - b := by
 rw [Ao, Ajm, Ajm, Bcy, Int32.ofInt_sub, Int32.ofInt_toInt, Int32.ofInt_toInt]
theorem Biz (a b : Int32) : geq a b = (a == b) := by
 rw [geq, Ajm, Ajm, Bool.eq_iff_iff]; simp [Int32.toInt_inj]
def sel (p : Nat → Bool) (a b : List Int32) : List Int32 := (List.range a.length).map fun k => if p k = true then a.getD k 0 else b.getD k 0
section
variable {p q : Nat → Bool} {a b : List Int32}
theorem Ama : (sel p a b).length = a.length := by simp [sel]
theorem Lq {k : Nat} (h : k < a.length) : a.getD k 0 = a[k] := by simp [List.getD_eq_getElem?_getD, h]
theorem Aa0 {k : Nat} (h : k < (sel p a b).length) : (sel p a b)[k] = if p k = true then a.getD k 0 else b.getD k 0 := by simp [sel]
theorem Ajr {k : Nat} (h : k < a.length) : Aj (sel p a b) (k : Int) = some (if p k = true then a.getD k 0 else b.getD k 0) := by
 rw [Cl (by rw [Ama]; exact h), Aa0]
theorem Abf (h : ∀ k, k < a.length → p k = q k) : sel p a b = sel q a b := by
 apply List.map_congr_left
 intro k hk
 rw [h k (List.mem_range.1 hk)]
theorem Atj {k : Nat} (h : k < a.length) : Rb (sel p a b) (k : Int) (a.getD k 0) = some (sel (fun j => p j || decide (j = k)) a b) := by
 rw [Yh _ (by rw [Ama]; exact h)]
 congr 1
 apply List.ext_getElem (by simp [Ama])
 intro i h1 h2
 rw [List.getElem_set, Aa0, Aa0]
 by_cases hi : k = i
 ·subst hi; simp
 ·have : ¬ i = k := fun e => hi e.symm
  simp [hi, this]
theorem Ar5 (h : ∀ k, k < a.length → p k = true) : sel p a b = a := by
 apply List.ext_getElem (by simp [Ama])
 intro i h1 h2
 rw [Aa0, if_pos (h i h2), Lq h2]
theorem As3 (hl : b.length = a.length) (h : ∀ k, k < a.length → p k = false) : sel p a b = b := by
 apply List.ext_getElem (by simp [Ama, hl])
 intro i h1 h2
 rw [Aa0, h i (by omega)]
 simp [List.getD_eq_getElem?_getD, h2]
end
end Go.Pl
set_option linter.unusedVariables false
set_option linter.unusedSimpArgs false
namespace Go.Pl
open Go Go.Lv
theorem Ayx (a b : Int32) : Bb a b = a * b := by
 rw [Bb, Ajm, Ajm, Bcy, Int32.ofInt_mul, Int32.ofInt_toInt, Int32.ofInt_toInt]
theorem Acm (a : Int32) : -2147483648 ≤ a.toInt ∧ a.toInt < 2147483648 := ⟨a.le_toInt, a.toInt_lt⟩
theorem Du (a : Int32) : (Ad a : Int) = a.toInt := by
 have := Acm a
 show wrap64 a.toInt = _
 rw [Bu] <;> omega
theorem Ahj (n : Int) : (Ad n : Int32) = Int32.ofInt n := rfl
theorem Blq (x : Int) : Int32.ofInt (x % 4294967296) = Int32.ofInt x := by
 apply Int32.toInt_inj.1
 rw [Int32.toInt_ofInt, Int32.toInt_ofInt]
 exact Int.emod_bmod x 4294967296
theorem Avv (x : Int) : Bp x = some (Int32.ofInt x) := by
 have e1 : (Ad x : UInt64).toNat = (x % 18446744073709551616).toNat := by
  rw [Bfi, UInt64.toNat_ofNat', Nat.mod_eq_of_lt (by omega)]
 have e2 : (Ad (Ad x : UInt64) : UInt32).toNat = (x % 4294967296).toNat := by
  have e : (Ad (Ad x : UInt64) : UInt32) = UInt32.ofNat (Ad x : UInt64).toNat := by simp only [Ad, Hv, Di]
  rw [e, UInt32.toNat_ofNat', e1]
  show (x % 18446744073709551616).toNat % 4294967296 = _
  omega
 have e3 : (Ad (Ad (Ad x : UInt64) : UInt32) : Int32) = Int32.ofInt ((Ad (Ad x : UInt64) : UInt32).toNat : Int) := rfl
 rw [Bp, e3, e2, ← Blq x]
 congr 2; omega
theorem Asc (a b : Int32) : Bp (Ae (Ad a : Int) (Ad b : Int)) = some (a + b) := by
 have := Acm a
 have := Acm b
 rw [Du, Du, Ag (by omega) (by omega), Avv, Int32.ofInt_add, Int32.ofInt_toInt, Int32.ofInt_toInt]
theorem Bni (a b : Int32) : Bp (Bb (Ad a : Int) (Ad b : Int)) = some (a * b) := by
 have ha := Acm a
 have hb := Acm b
 have h1 : -9223372036854775808 ≤ a.toInt * b.toInt ∧ a.toInt * b.toInt ≤ 9223372036854775807 := by
  have h2 : (a.toInt * b.toInt).natAbs ≤ 2147483648 * 2147483648 := by
   rw [Int.natAbs_mul]; exact Nat.mul_le_mul (by omega) (by omega)
  omega
 rw [Du, Du, Gt h1.1 h1.2, Avv, Int32.ofInt_mul, Int32.ofInt_toInt, Int32.ofInt_toInt]
def OkF (s : Int) (t p : List Int32) : Prop := (s = 9 ∨ s = 10) ∧ t.length = 16 ∧ p.length = 16
theorem Atu {s : Int} {t p : List Int32} (h : OkF s t p) : Ad7 s t p = some 0 := by
 obtain ⟨rfl | rfl, _, _⟩ := h <;> rfl
theorem g32 {l : List Int32} {k : Nat} (h : k < l.length) : Aj l (k : Int) = some (l.getD k 0) := by
 rw [Cl h]; simp [List.getD_eq_getElem?_getD, h]
def Aol (t p : List Int32) : Nat → Int32
 | 0 => 0
 | i + 1 => Aol t p i + t.getD i 0 * p.getD i 0
def half (s : Int) : Int32 := if s = 9 then 256 else 512
def gF (s : Int) (t p : List Int32) : Int32 := Int32.ofInt ((half s + Aol t p 16).toInt.fdiv (if s = 9 then 512 else 1024))
theorem Bao {s : Int} {t p : List Int32} (h : OkF s t p) : ∀ (j i q : Nat), i + j = 16 → j < q → Tm t s p q (half s + Aol t p i) (i : Int) = some (gF s t p, 0)
 | 0, i, q + 1, hi, _ => by
  obtain rfl : i = 16 := by omega
  have hs := h.1
  rw [Tm, Aes, if_neg (by rw [Af]; simp), Akk, Aqy, Ca (by rw [Ci]; simp; omega), Aa]
  obtain rfl | rfl := hs <;> rfl
 | j + 1, i, q + 1, hi, hq => by
  obtain ⟨hs, ht, hp⟩ := h
  rw [Tm, Aes, if_pos (by rw [Af]; simp; omega), g32 (by omega), Aa, g32 (by omega), Aa, Aa, Ag (b := 1) (by omega) (by omega), Alq, Ayx, Int32.add_assoc]
  exact Bao ⟨hs, ht, hp⟩ j (i + 1) q (by omega) (by omega)
theorem Bm3 {s : Int} {t p : List Int32} (h : OkF s t p) : Anc s t p = some (gF s t p, 0) := by
 have hs := h.1
 have h1 := Bao h 16 0 Ay (by omega) (by have := As; omega)
 have e : Fc (1 : Int32) (GI.toZ (Ao s (1 : Int))).toNat = half s + Aol t p 0 := by
  obtain rfl | rfl := hs <;> rfl
 rw [Anc, Akg, Atu h, Aa, if_neg (by rw [Al]; simp), Ca (by rw [Ci, Bw (by omega) (by omega)]; simp; omega), Aa, Aj7, e]
 exact h1
theorem Ays {s : Int} {t p : List Int32} (ht : t.length = 16) (hp : p.length = 16) {g : Int32} (hg : Aol t p 16 = g) : ∀ (j i q : Nat), i + j = 16 → j < q → Hp s t p q (Aol t p i).toInt (i : Int) = some g
 | 0, i, q + 1, hi, _ => by
  obtain rfl : i = 16 := by omega
  rw [Hp, Pq, if_neg (by rw [Af]; simp), Yw, Agq, Ahj, Int32.ofInt_toInt, hg]
 | j + 1, i, q + 1, hi, hq => by
  have ih := Ays (s := s) ht hp hg j (i + 1) q (by omega) (by omega)
  rw [Aol] at ih
  rw [Hp, Pq, if_pos (by rw [Af]; simp; omega), g32 (by omega), g32 (by omega), Aa, Aa, Aa, Aa, Bni, Aa, ← Du (Aol t p i), Asc, Aa, Du, Ag (by omega) (by omega)]
  exact ih
theorem Bol {s : Int} {t p : List Int32} (h : OkF s t p) : Aee s t p = some (Aol t p 16) :=
 Ays h.2.1 h.2.2 rfl 16 0 Ay (by omega) (by have := As; omega)
theorem Bka (x n : Int) (hn : n = 512 ∨ n = 1024 ∨ n = 16 ∨ n = 32) : (if x.tmod n < 0 then x.tdiv n - 1 else x.tdiv n) = x.fdiv n := by
 have hs : n.sign = 1 := by obtain rfl | rfl | rfl | rfl := hn <;> rfl
 rw [Int.tdiv_eq_ediv, Int.tmod_eq_emod, hs, Int.fdiv_eq_ediv_of_nonneg _ (by omega)]
 by_cases h : 0 ≤ x ∨ n ∣ x
 ·rw [if_pos h, if_pos h]
  obtain rfl | rfl | rfl | rfl := hn <;> (rw [if_neg (by omega)]; omega)
 ·rw [if_neg h, if_neg h]
  obtain rfl | rfl | rfl | rfl := hn <;> (rw [if_pos (by omega)]; omega)
theorem Awl (x n : Int) (hn : n = 512 ∨ n = 1024 ∨ n = 16 ∨ n = 32) (h : -1000000000000 ≤ x) (h' : x ≤ 1000000000000) : -1000000000000 ≤ x.tdiv n ∧ x.tdiv n ≤ 1000000000000 := by
 have hs : n.sign = 1 := by obtain rfl | rfl | rfl | rfl := hn <;> rfl
 rw [Int.tdiv_eq_ediv, hs]
 by_cases h : 0 ≤ x ∨ n ∣ x
 ·rw [if_pos h]; obtain rfl | rfl | rfl | rfl := hn <;> omega
 ·rw [if_neg h]; obtain rfl | rfl | rfl | rfl := hn <;> omega
theorem Bvi (x n : Int) (hn : n = 512 ∨ n = 1024 ∨ n = 16 ∨ n = 32) (h : -1000000000000 ≤ x) (h' : x ≤ 1000000000000) : Bq x n = x.tdiv n := by
 have := Awl x n hn h h'
 rw [Af1, Bu (by omega) (by omega)]
theorem Beq (x n : Int) (hn : n = 512 ∨ n = 1024 ∨ n = 16 ∨ n = 32) (h : -1000000000000 ≤ x) (h' : x ≤ 1000000000000) :
  (if (Cj (Il x n) (0 : Int)) = true then some (Ad (Ao (Bq x n) (1 : Int)) : Int32) else some (Ad (Bq x n) : Int32)) = some (Int32.ofInt (x.fdiv n)) := by
 have hb := Awl x n hn h h'
 rw [Af, Il, Bvi x n hn h h', Bw (by omega) (by omega), Ahj, Ahj, ← Bka x n hn]
 by_cases hx : x.tmod n < 0
 ·rw [if_pos (by simpa using hx), if_pos hx]
 ·rw [if_neg (by simpa using hx), if_neg hx]
theorem Br4 {s : Int} {t p : List Int32} (h : OkF s t p) : Vp s t p = some (gF s t p) := by
 obtain ⟨hs, ht, hp⟩ := h
 have h : OkF s t p := ⟨hs, ht, hp⟩
 have hx := Acm (Aol t p 16 + half s)
 have key : ∀ n : Int, (n = 512 ∨ n = 1024) → (half s).toInt = n / 2 → gF s t p = Int32.ofInt ((half s + Aol t p 16).toInt.fdiv n) → Na s t p n = some (gF s t p) := by
  intro n hn hh hg
  have e2 : Bq n (2 : Int) = (half s).toInt := by rw [hh]; obtain rfl | rfl := hn <;> rfl
  rw [Na, Afi, Bol h, Aa, e2, ← Du (half s), Asc, Aa, Ca (by rw [Al]; simp; omega), Aa, Aa, Du, Beq _ n (by omega) (by omega) (by omega), hg, Int32.add_comm]
 rw [Vp, Wd]
 obtain rfl | rfl := hs
 ·rw [if_pos (by rw [Az]; rfl)]; exact key 512 (.inl rfl) rfl rfl
 ·rw [if_neg (by rw [Az]; decide)]; exact key 1024 (.inr rfl) rfl rfl
def stp (i : Nat) : Int32 := if i = 0 then 4 else if i < 4 then 2 else 1
def sg (x : Int32) : Int32 := if x.toInt < 0 then -1 else if 0 < x.toInt then 1 else 0
def lrn (t p : List Int32) (w : Int32) : List Int32 := (List.range 16).map fun i => t.getD i 0 + stp i * sg (p.getD i 0) * sg w
theorem Aeq (t p : List Int32) (w : Int32) : (lrn t p w).length = 16 := by simp [lrn]
theorem Bb0 (t p : List Int32) (w : Int32) {i : Nat} (h : i < 16) : (lrn t p w).getD i 0 = t.getD i 0 + stp i * sg (p.getD i 0) * sg w := by
 rw [Lq (by rw [Aeq]; exact h)]; simp [lrn]
theorem step_eq (i : Nat) : Ak4 (i : Int) = some (stp i) := by
 rw [Ak4, stp]
 by_cases h : i = 0
 ·rw [if_pos (by rw [Az]; simp [h]), if_pos h]
 ·rw [if_neg (by rw [Az]; simp; omega), if_neg h]
  by_cases h2 : i < 4
  ·rw [if_pos (by rw [Af]; simp; omega), if_pos h2]
  ·rw [if_neg (by rw [Af]; simp; omega), if_neg h2]
theorem Bla (i : Nat) : Vk (i : Int) = some (stp i) := by
 rw [Vk, stp]
 by_cases h : i = 0
 ·rw [if_pos (by rw [Az]; simp [h]), if_pos h]
 ·rw [if_neg (by rw [Az]; simp; omega), if_neg h]
  by_cases h2 : i < 4
  ·rw [if_pos (by rw [Xx]; simp; omega), if_pos h2]
  ·rw [if_neg (by rw [Xx]; simp; omega), if_neg h2]
theorem Bbm (a b : Int32) : Cj a b = decide (a.toInt < b.toInt) := rfl
theorem Bhv (a b : Int32) : Cu a b = decide (b.toInt < a.toInt) := rfl
theorem sign_eq (x : Int32) : Nl x = some (sg x) := by
 rw [Nl, sg, Bbm, Bhv, show (0 : Int32).toInt = 0 from rfl]
 by_cases h : x.toInt < 0
 ·rw [if_pos (by simpa using h), if_pos h]
 ·rw [if_neg (by simpa using h), if_neg h]
  by_cases h2 : 0 < x.toInt
  ·rw [if_pos (by simpa using h2), if_pos h2]
  ·rw [if_neg (by simpa using h2), if_neg h2]
theorem Bi9 : sg 0 = 0 := rfl
theorem toInt_ne {x : Int32} (h : x ≠ 0) : x.toInt ≠ 0 := fun e => h (Int32.toInt_inj.1 (by rw [e]; rfl))
theorem Bcn {x : Int32} (h : x.toInt < 0) : sg x = -1 := by rw [sg, if_pos h]
theorem Bbo {x : Int32} (h : x ≠ 0) (h2 : ¬ x.toInt < 0) : sg x = 1 := by
 have := toInt_ne h
 rw [sg, if_neg h2, if_pos (by omega)]
theorem Ap3 (i : Nat) : stp i = 4 ∨ stp i = 2 ∨ stp i = 1 := by
 unfold stp
 by_cases h : i = 0
 ·rw [if_pos h]; exact .inl rfl
 ·rw [if_neg h]; split; exact .inr (.inl rfl); exact .inr (.inr rfl)
theorem Bl1 {x w : Int32} (hx : x ≠ 0) (hw : w ≠ 0) (h : (x.toInt < 0) = (w.toInt < 0)) (i : Nat) : stp i * sg x * sg w = stp i := by
 by_cases h1 : x.toInt < 0
 ·rw [Bcn h1, Bcn (by rw [← h]; exact h1)]
  obtain e | e | e := Ap3 i <;> rw [e] <;> decide
 ·rw [Bbo hx h1, Bbo hw (by rw [← h]; exact h1)]
  obtain e | e | e := Ap3 i <;> rw [e] <;> decide
theorem Bh1 {x w : Int32} (hx : x ≠ 0) (hw : w ≠ 0) (h : ¬ (x.toInt < 0) = (w.toInt < 0)) (i : Nat) (a : Int32) : a + stp i * sg x * sg w = a - stp i := by
 have key : stp i * sg x * sg w = - stp i := by
  by_cases h1 : x.toInt < 0
  ·have h2 : ¬ w.toInt < 0 := fun h2 => h (propext ⟨fun _ => h2, fun _ => h1⟩)
   rw [Bcn h1, Bbo hw h2]
   obtain e | e | e := Ap3 i <;> rw [e] <;> decide
  ·have h2 : w.toInt < 0 := Decidable.by_contra fun h2 => h (propext ⟨fun h3 => absurd h3 h1, fun h3 => absurd h3 h2⟩)
   rw [Bbo hx h1, Bcn h2]
   obtain e | e | e := Ap3 i <;> rw [e] <;> decide
 rw [key, Int32.sub_eq_add_neg]
def As0 (i : Nat) : Nat → Bool := fun j => decide (j < i)
theorem Axe {a b : List Int32} {i : Nat} (h : i < a.length) : Rb (sel (As0 i) a b) (i : Int) (a.getD i 0) = some (sel (As0 (i + 1)) a b) := by
 rw [Atj h]
 congr 1
 apply Abf
 intro k _
 rw [Bool.eq_iff_iff]
 simp only [As0, Bool.or_eq_true, decide_eq_true_eq]; omega
theorem Bma {a b : List Int32} {i : Nat} (e : a.getD i 0 = b.getD i 0) : sel (As0 i) a b = sel (As0 (i + 1)) a b := by
 apply List.map_congr_left
 intro k _
 simp only [As0, decide_eq_true_eq]
 by_cases h1 : k < i
 ·rw [if_pos h1, if_pos (by omega)]
 ·by_cases h2 : k = i
  ·subst h2; rw [if_neg h1, if_pos (by omega), e]
  ·rw [if_neg h1, if_neg (by omega)]
theorem Bez {a b : List Int32} {i : Nat} (h : i < a.length) : Aj (sel (As0 i) a b) (i : Int) = some (b.getD i 0) := by
 rw [Ajr h, if_neg (by simp [As0])]
theorem Azq {s : Int} {t p : List Int32} {w : Int32} (hw : w ≠ 0) (ht : t.length = 16) (hp : p.length = 16) : ∀ (j i q : Nat), i + j = 16 → j < q → Tp w p s q (i : Int) (sel (As0 i) (lrn t p w) t) = some (s, lrn t p w, p, 0)
 | 0, i, q + 1, hi, _ => by
  obtain rfl : i = 16 := by omega
  rw [Tp, Aet, if_neg (by rw [Af]; simp), Ar5 (fun k hk => by rw [Aeq] at hk; simpa [As0] using hk)]; rfl
 | j + 1, i, q + 1, hi, hq => by
  have hl := Aeq t p w
  have hg := Bb0 t p w (i := i) (by omega)
  rw [Tp, Aet, if_pos (by rw [Af]; simp; omega), g32 (by omega), Aa, Ag (b := 1) (by omega) (by omega), Bez (by omega), step_eq]
  simp only [Aa]
  rw [Alq, Awy, Biz, Bbm, Bbm, show (0 : Int32).toInt = 0 from rfl]
  have ih := Azq (s := s) hw ht hp j (i + 1) q (by omega) (by omega)
  by_cases hx : p.getD i 0 = 0
  ·rw [if_pos (by rw [hx]; rfl), Bma (by rw [hg, hx, Bi9, Int32.mul_zero, Int32.zero_mul, Int32.add_zero])]
   exact ih
  ·rw [if_neg (by simpa using hx)]
   by_cases hs : ((p.getD i 0).toInt < 0) = (w.toInt < 0)
   ·rw [if_pos (by rw [beq_iff_eq]; simp only [hs]), show t.getD i 0 + stp i = (lrn t p w).getD i 0 by rw [hg, Bl1 hx hw hs], Axe (by omega), Aa]
    exact ih
   ·rw [if_neg (by rw [beq_iff_eq, decide_eq_decide]; exact fun h => hs (propext h)), show t.getD i 0 - stp i = (lrn t p w).getD i 0 by rw [hg, Bh1 hx hw hs], Axe (by omega), Aa]
    exact ih
theorem Bnl {t : List Int32} (p : List Int32) (ht : t.length = 16) : lrn t p 0 = t := by
 apply List.ext_getElem (by rw [Aeq, ht])
 intro i h1 h2
 have := Bb0 t p 0 (i := i) (by omega)
 rw [Lq h1, Lq h2] at this
 rw [this, Bi9, Int32.mul_zero, Int32.add_zero]
theorem Bo7 {s : Int} {t p : List Int32} (h : OkF s t p) (w : Int32) : Alw s t p w = some (s, lrn t p w, p, 0) := by
 rw [Alw, Ajz, Atu h, Aa, if_neg (by rw [Al]; simp), Biz]
 by_cases hw : w = 0
 ·rw [if_pos (by simpa using hw), hw, Bnl p h.2.1]
 ·have h1 := Azq (s := s) hw h.2.1 h.2.2 16 0 Ay (by omega) (by have := As; omega)
  rw [As3 (by rw [Aeq, h.2.1]) (fun k _ => by simp [As0])] at h1
  rw [if_neg (by simpa using hw)]
  exact h1
theorem Atb {s : Int} {t p : List Int32} {w : Int32} (ht : t.length = 16) (hp : p.length = 16) : ∀ (j i q : Nat), i + j = 16 → j < q → Dt w s p q (i : Int) (sel (As0 i) (lrn t p w) t) = some (s, lrn t p w, p)
 | 0, i, q + 1, hi, _ => by
  obtain rfl : i = 16 := by omega
  rw [Dt, Jp, if_neg (by rw [Af]; simp), Ar5 (fun k hk => by rw [Aeq] at hk; simpa [As0] using hk)]; rfl
 | j + 1, i, q + 1, hi, hq => by
  have hl := Aeq t p w
  have hg := Bb0 t p w (i := i) (by omega)
  rw [Dt, Jp, if_pos (by rw [Af]; simp; omega), g32 (l := p) (by omega), Ag (b := 1) (by omega) (by omega), Bez (by omega), Bla, sign_eq w, Aa, Aa, Aa, Aa, Aa, sign_eq, Aa, Aa, Aa, Alq, Ayx, Ayx, ← hg, Axe (by omega), Aa]
  exact Atb ht hp j (i + 1) q (by omega) (by omega)
theorem Bg4 {s : Int} {t p : List Int32} (h : OkF s t p) (w : Int32) : Ww s t p w = some (s, lrn t p w, p) := by
 have h1 := Atb (s := s) (w := w) h.2.1 h.2.2 16 0 Ay (by omega) (by have := As; omega)
 rw [As3 (by rw [Aeq, h.2.1]) (fun k _ => by simp [As0])] at h1
 exact h1
theorem Bsl {p : List Int32} (h : p.length = 16) : ∃ a0 a1 a2 a3 a4 a5 a6 a7 a8 a9 b0 b1 b2 b3 b4 b5, p = [a0, a1, a2, a3, a4, a5, a6, a7, a8, a9, b0, b1, b2, b3, b4, b5] := by
 match p, h with
 | [a0, a1, a2, a3, a4, a5, a6, a7, a8, a9, b0, b1, b2, b3, b4, b5], _ => exact ⟨a0, a1, a2, a3, a4, a5, a6, a7, a8, a9, b0, b1, b2, b3, b4, b5, rfl⟩
theorem Bq5 {s : Int} {t p : List Int32} (h : OkF s t p) (x : Int32) : Apu s t p x = some (s, t, x :: p.take 15, 0) := by
 obtain ⟨hs, ht, hp⟩ := h
 rw [Apu, Ag5, Atu ⟨hs, ht, hp⟩, Aa, if_neg (by rw [Al]; simp), show vwI (16 : Int) 1 16 = some () from rfl, Aa, show vwI (16 : Int) 0 16 = some () from rfl, Aa, Alu, Asx]
 obtain ⟨a0, a1, a2, a3, a4, a5, a6, a7, a8, a9, b0, b1, b2, b3, b4, b5, rfl⟩ := Bsl hp
 rfl
def shf (p : List Int32) (i : Nat) : List Int32 := (List.range 16).map fun k => if k ≤ i then p.getD k 0 else p.getD (k - 1) 0
theorem Zp (p : List Int32) (i : Nat) : (shf p i).length = 16 := by simp [shf]
theorem Brs (p : List Int32) (i k : Nat) (h : k < 16) : (shf p i).getD k 0 = if k ≤ i then p.getD k 0 else p.getD (k - 1) 0 := by
 rw [Lq (by rw [Zp]; exact h)]; simp [shf]
theorem Brm (p : List Int32) (i : Nat) (h : i + 1 < 16) : Rb (shf p (i + 1)) ((i + 1 : Nat) : Int) (p.getD i 0) = some (shf p i) := by
 rw [Yh _ (by rw [Zp]; exact h)]
 congr 1
 apply List.ext_getElem (by simp [Zp])
 intro k h1 h2
 rw [Zp] at h2
 rw [List.getElem_set]
 simp only [shf, List.getElem_map, List.getElem_range]
 by_cases hk : i + 1 = k
 ·subst hk; rw [if_pos rfl, if_neg (by omega)]; rfl
 ·rw [if_neg hk]
  by_cases h3 : k ≤ i
  ·rw [if_pos (by omega), if_pos h3]
  ·rw [if_neg (by omega), if_neg h3]
theorem Au0 (s : Int) (t p : List Int32) (x : Int32) (hp : p.length = 16) : ∀ (i q : Nat), i < 16 → i < q → En x s t q (i : Int) (shf p i) = some (s, t, x :: p.take 15)
 | 0, q + 1, _, _ => by
  have hg : Aj (shf p 0) (0 : Int) = some ((shf p 0).getD 0 0) := g32 (l := shf p 0) (k := 0) (by rw [Zp]; omega)
  have hset : Rb (shf p 0) (0 : Int) x = some ((shf p 0).set 0 x) := Yh (l := shf p 0) (n := 0) x (by rw [Zp]; omega)
  rw [En, Kt, if_neg (by rw [Ap]; simp), Rl, Ab3, hg, Aa, hset, Aa]
  congr 3
  apply List.ext_getElem (by simp [Zp, hp])
  intro k h1 h2
  rw [List.length_set, Zp] at h1
  rw [List.getElem_set]
  cases k with
  | zero => rw [if_pos rfl]; rfl
  | succ k =>
   rw [if_neg (by omega)]
   simp only [shf, List.getElem_map, List.getElem_range, List.getElem_cons_succ, List.getElem_take]
   rw [if_neg (by omega), Nat.add_sub_cancel, Lq (by omega)]
 | i + 1, q + 1, hi, hq => by
  have hg := g32 (l := shf p (i + 1)) (k := i) (by rw [Zp]; omega)
  rw [Brs p (i + 1) i (by omega), if_pos (by omega)] at hg
  have e1 : Ao ((i + 1 : Nat) : Int) (1 : Int) = (i : Int) := by rw [Bw (by omega) (by omega)]; omega
  have hg2 := g32 (l := shf p (i + 1)) (k := i + 1) (by rw [Zp]; omega)
  rw [En, Kt, if_pos (by rw [Ap]; simp), e1, hg, Aa, Aa, hg2, Aa, Brm p i hi, Aa]
  exact Au0 s t p x hp i q (by omega) (by omega)
theorem Bkm {s : Int} {t p : List Int32} (hp : p.length = 16) (x : Int32) : Yl s t p x = some (s, t, x :: p.take 15) := by
 have h := Au0 s t p x hp 15 Ay (by omega) (by have := As; omega)
 have e : shf p 15 = p := by
  apply List.ext_getElem (by rw [Zp, hp])
  intro k h1 h2
  rw [Zp] at h1
  simp only [shf, List.getElem_map, List.getElem_range]
  rw [if_pos (by omega), Lq h2]
 rw [e] at h
 exact h
theorem Bnu {s : Int} {t p : List Int32} (h : OkF s t p) (w x : Int32) : OkF s (lrn t p w) (x :: p.take 15) := ⟨h.1, Aeq _ _ _, by simp [h.2.2]⟩
theorem Bqc {s : Int} {t p : List Int32} (h : OkF s t p) (y : Int32) : Aot s t p y = some (y + gF s t p, s, lrn t p y, (y + gF s t p) :: p.take 15, 0) := by
 rw [Aot, Bm3 h, Aa]
 simp only
 rw [if_neg (by rw [Al]; simp), Alq, Aq3, Bo7 h, Aa]
 simp only
 rw [Bq5 (s := s) (t := lrn t p y) (p := p) ⟨h.1, Aeq _ _ _, h.2.2⟩, Aa]; rfl
theorem Bk4 {s : Int} {t p : List Int32} (h : OkF s t p) (y : Int32) : Ns s t p y = some (y + gF s t p, s, lrn t p y, (y + gF s t p) :: p.take 15) := by
 rw [Ns, Br4 h, Aa, Asc, Aa, Bg4 h, Aa]
 simp only
 rw [Bkm h.2.2, Aa]
def sB (bits : Int) : Int := if bits = 16 then 9 else 10
def shB (bits : Int) : Int := if bits = 8 then 4 else 5
def Ce (bits : Int) : Prop := bits = 8 ∨ bits = 16 ∨ bits = 24
def gs (sh : Int) (last : Int32) : Int32 := Ad (Bb4 (Ao (Fc (Ad last : Int) sh.toNat) (Ad last)) sh.toNat)
theorem Bva (bits : Int) : sB bits = 9 ∨ sB bits = 10 := by unfold sB; split <;> simp
theorem Bqz (bits : Int) : 0 ≤ shB bits := by unfold shB; split <;> omega
theorem Bwq {bits : Int} (h : Ce bits) (t : List Int32) : Ash bits t = some (sB bits, t, List.replicate 16 0, 0) := by
 obtain rfl | rfl | rfl := h <;> rfl
theorem Btq {bits : Int} (h : Ce bits) : Aox bits = some (shB bits, 0) := by
 obtain rfl | rfl | rfl := h <;> rfl
theorem Btk {sh : Int} (h : 0 ≤ sh) (last : Int32) : Aji sh last = some (gs sh last) := by
 rw [Aji, Ca (by rw [Ci]; simpa using h), Aa, Aa]; rfl
theorem Bub {bits : Int} (h : Ce bits) (last : Int32) : Ae5 bits last = some (gs (shB bits) last, 0) := by
 rw [Ae5, Btq h, Aa]
 simp only
 rw [if_neg (by rw [Al]; simp), Btk (Bqz bits), Aa]
theorem Bgo {bits : Int} (h : Ce bits) (last : Int32) (t p : List Int32) : Ae7 bits last (sB bits) t p = some 0 := by
 rw [Ae7, Bwq h, Aa]
 simp only
 rw [if_neg (by rw [Al, Al]; simp)]
theorem Blm {bits : Int} (h : Ce bits) {t p : List Int32} (hF : OkF (sB bits) t p) (last y : Int32) :
  Jr bits last (sB bits) t p y = some (y + gF (sB bits) t p + gs (shB bits) last, bits, y + gF (sB bits) t p + gs (shB bits) last, sB bits, lrn t p y, (y + gF (sB bits) t p) :: p.take 15, 0) := by
 rw [Jr, Bgo h, Aa, if_neg (by rw [Al]; simp), Bub h, Aa]
 simp only
 rw [Bqc hF, Aa]
 simp only
 rw [Alq]
theorem Aub (sh : Int) (hs : sh = 4 ∨ sh = 5) (last : Int32) : Kf sh last = some (gs sh last) := by
 have hl := Acm last
 have key : ∀ n : Int, n = 16 ∨ n = 32 → gs sh last = Int32.ofInt (((n - 1) * last.toInt).fdiv n) → Kk last n = some (gs sh last) := by
  intro n hn hg
  have e : Bb (Ao n (1 : Int)) (Ad last : Int) = (n - 1) * last.toInt := by
   obtain rfl | rfl := hn <;> (rw [Du, Bw (by omega) (by omega), Gt (by omega) (by omega)])
  rw [Kk, Ac8, Ca (by rw [Al]; simp; omega), Aa, Aa, e, Beq _ n (by omega) (by obtain rfl | rfl := hn <;> omega) (by obtain rfl | rfl := hn <;> omega), hg]
 rw [Kf, Rn]
 obtain rfl | rfl := hs
 ·rw [if_neg (by rw [Az]; decide)]
  refine key 16 (.inl rfl) ?_
  have e : Fc (Ad last : Int) (4 : Int).toNat = last.toInt * 16 := by
   rw [Du]; show wrap64 (last.toInt * 2 ^ 4) = _; rw [Bu] <;> omega
  rw [gs, e, Du, Bw (by omega) (by omega), Ahj]
  show Int32.ofInt ((last.toInt * 16 - last.toInt).fdiv 16) = _
  congr 2; omega
 ·rw [if_pos (by rw [Az]; rfl)]
  refine key 32 (.inr rfl) ?_
  have e : Fc (Ad last : Int) (5 : Int).toNat = last.toInt * 32 := by
   rw [Du]; show wrap64 (last.toInt * 2 ^ 5) = _; rw [Bu] <;> omega
  rw [gs, e, Du, Bw (by omega) (by omega), Ahj]
  show Int32.ofInt ((last.toInt * 32 - last.toInt).fdiv 32) = _
  congr 2; omega
theorem Bkj {bits : Int} (h : Ce bits) {t p : List Int32} (hF : OkF (sB bits) t p) (last y : Int32) :
  Gl bits last (sB bits) t p y = some (y + gF (sB bits) t p + gs (shB bits) last, bits, y + gF (sB bits) t p + gs (shB bits) last, sB bits, lrn t p y, (y + gF (sB bits) t p) :: p.take 15) := by
 have hb : Ps bits last (sB bits) t p = some (Ad (gs (shB bits) last) : Int) := by
  rw [Ps]
  obtain rfl | rfl | rfl := h
  ·rw [if_pos (by rw [Az]; rfl), Aub 4 (.inl rfl), Aa]; rfl
  ·rw [if_neg (by rw [Az]; decide), Aub 5 (.inr rfl), Aa]; rfl
  ·rw [if_neg (by rw [Az]; decide), Aub 5 (.inr rfl), Aa]; rfl
 rw [Gl, Bk4 hF, Aa]
 simp only
 rw [hb, Aa, Asc, Aa]
theorem Bvc {bits : Int} (h : Ce bits) (t : List Int32) : Ad6 bits t = some (bits, 0, sB bits, t, List.replicate 16 0, 0) := by
 obtain rfl | rfl | rfl := h <;> rfl
def Anh (n : UInt32) : Int32 := if n.toNat % 2 = 0 then Int32.ofInt ((n.toNat / 2 : Nat) : Int) else Int32.ofInt (-((n.toNat / 2 : Nat) : Int) - 1)
theorem Bfp (a b : Int32) : (Zi a b).toBitVec = a.toBitVec ^^^ b.toBitVec := by
 show (Int32.ofInt ((BitVec.ofInt 32 a.toBitVec.toInt ^^^ BitVec.ofInt 32 b.toBitVec.toInt).toNat : Int)).toBitVec = _
 rw [BitVec.ofInt_toInt, BitVec.ofInt_toInt, Int32.toBitVec_ofInt, BitVec.ofInt_natCast, BitVec.ofNat_toNat, BitVec.setWidth_eq]
theorem Bwb (m : Nat) (h : m < 2147483648) : Zi (Int32.ofInt (m : Int)) (Int32.ofInt (-1)) = Int32.ofInt (-(m : Int) - 1) := by
 apply Int32.toBitVec_inj.1
 have e1 : (Int32.ofInt (-1)).toBitVec = BitVec.allOnes 32 := by decide
 rw [Bfp, e1, BitVec.xor_allOnes, Int32.toBitVec_ofInt, Int32.toBitVec_ofInt]
 apply BitVec.eq_of_toNat_eq
 rw [BitVec.toNat_not, BitVec.toNat_ofInt, BitVec.toNat_ofInt]
 omega
theorem Bor (n : UInt32) : Xk n = some (Anh n) := by
 have hn := n.toNat_lt
 have e1 : (Ad (Cd n (GI.toZ (1 : UInt64)).toNat) : Int32) = Int32.ofInt ((n.toNat / 2 : Nat) : Int) := by
  show Int32.ofInt ((Cd n 1).toNat : Int) = _
  rw [Ak0]
 have e2 : (Ad (Ik n (1 : UInt32)) : Int32) = Int32.ofInt ((n.toNat % 2 : Nat) : Int) := by
  show Int32.ofInt ((Ik n (1 : UInt32)).toNat : Int) = _
  rw [Bf2, UInt32.toNat_and]
  show Int32.ofInt ((n.toNat &&& 1 : Nat) : Int) = _
  rw [Nat.and_one_is_mod]
 rw [Xk, e1, e2, Anh]
 congr 1
 by_cases h : n.toNat % 2 = 0
 ·have e3 : Ate (Int32.ofInt ((n.toNat % 2 : Nat) : Int)) = Int32.ofInt 0 := by rw [h]; decide
  rw [if_pos h, e3]
  apply Int32.toBitVec_inj.1
  rw [Bfp, show (Int32.ofInt 0).toBitVec = 0#32 from rfl, BitVec.xor_zero]
 ·have e3 : Ate (Int32.ofInt ((n.toNat % 2 : Nat) : Int)) = Int32.ofInt (-1) := by rw [show n.toNat % 2 = 1 by omega]; decide
  rw [if_neg h, e3, Bwb _ (by omega)]
theorem Brn (n : UInt32) : Jd n = some (Anh n) := by
 have hn := n.toNat_lt
 have e1 : geq (Abg n (2 : UInt32)) (0 : UInt32) = decide (n.toNat % 2 = 0) := by
  rw [Bbz, Beu, Bool.eq_iff_iff]
  simp only [beq_iff_eq, ← UInt32.toNat_inj, UInt32.toNat_mod, decide_eq_true_eq]; rfl
 rw [Jd, e1, Anh]
 by_cases h : n.toNat % 2 = 0
 ·rw [if_pos (by simpa using h), if_pos h, Bev]; rfl
 ·have e2 : (Ad n : Int) = (n.toNat : Int) := Bh6 n
  rw [if_neg (by simpa using h), if_neg h, e2, Ag (by omega) (by omega), Bhs, Bu (by omega) (by omega), Af1, Int.tdiv_eq_ediv, Ahj]
  congr 2
  rw [if_pos (.inr (by omega)), Bu (by omega) (by omega)]; omega
end Go.Pl
set_option linter.unusedVariables false
set_option linter.unusedSimpArgs false
namespace Go.Pl
open Go Go.Lv
theorem Bfw {c : Prop} [Decidable c] (h : c) : Oz (decide c) = some () := by rw [decide_eq_true h]; rfl
def unV (f : Nat → Int32) (ch : Nat) : Nat → Int32
 | 0 => if 1 < ch then f (ch - 1) + Bq (f (ch - 2)) (2 : Int32) else f (ch - 1)
 | j + 1 => unV f ch j - f (ch - 2 - j)
def unm (ch : Nat) (m : List Int32) : List Int32 := (List.range m.length).map fun k => unV (fun i => m.getD (k - k % ch + i) 0) ch (ch - 1 - k % ch)
theorem Apt (ch : Nat) (m : List Int32) : (unm ch m).length = m.length := by simp [unm]
theorem Avq {ch : Nat} {m : List Int32} {a i : Nat} (ha : a % ch = 0) (hi : i < ch) (h : a + i < m.length) : (unm ch m).getD (a + i) 0 = unV (fun i => m.getD (a + i) 0) ch (ch - 1 - i) := by
 have hb : (a + i) % ch = i := by rw [Nat.add_mod, ha, Nat.zero_add, Nat.mod_mod, Nat.mod_eq_of_lt hi]
 rw [Lq (by rw [Apt]; exact h)]
 simp only [unm, List.getElem_map, List.getElem_range, hb]
 rw [show a + i - i = a by omega]
section
variable (ch : Nat) (m : List Int32)
theorem Boj (h1 : 1 ≤ ch) (h6 : ch ≤ 6) (hm : m.length % ch = 0) (hl2 : m.length ≤ 4000) : Aqa (ch : Int) m = some 0 := by
 rw [Aqa, if_neg (by simp [Af, Ap]; omega), if_neg (by rw [Ap, Ac]; simp; omega), Ca (by rw [Al]; simp; omega), Aa, if_neg]
 rw [Al, Il, Ac, ← Int.ofNat_tmod, hm]; simp
theorem Axo (bk : Int → List Int32 → Option (List Int32 × Int)) (at' : Nat) (h1 : 1 ≤ ch) (h6 : ch ≤ 6) (hm : at' % ch = 0) (hl : at' + ch ≤ m.length) (hl2 : m.length ≤ 4000) : ∀ (i q : Nat), i ≤ ch - 1 → i < q →
  Xm bk (ch : Int) (at' : Int) q ((i : Int) - 1) (sel (fun k => decide (k < at' ∨ (at' + i ≤ k ∧ k < at' + ch))) (unm ch m) m) = bk ((at' + ch : Nat) : Int) (sel (fun k => decide (k < at' + ch)) (unm ch m) m)
 | 0, q + 1, hi, _ => by
  have e4 : Ae (at' : Int) (ch : Int) = ((at' + ch : Nat) : Int) := by rw [Ag (by omega) (by omega)]; omega
  rw [Xm, Ag7, if_neg (by rw [Ci]; simp), Amv, Asq, e4]
  congr 1
  apply Abf
  intro k _
  rw [Bool.eq_iff_iff]; simp; omega
 | i + 1, q + 1, hi, hq => by
  have hlen := Apt ch m
  have e2 : Ae (at' : Int) (ch : Int) - (at' : Int) = (ch : Int) := by rw [Ag (by omega) (by omega)]; omega
  have e3 : Ae (i : Int) 1 = ((i + 1 : Nat) : Int) := by rw [Ag (by omega) (by omega)]; omega
  have hv : ((unm ch m).getD (at' + (i + 1)) 0 - m.getD (at' + i) 0) = (unm ch m).getD (at' + i) 0 := by
   rw [Avq hm (by omega) (by omega), Avq hm (by omega) (by omega), show ch - 1 - i = (ch - 1 - (i + 1)) + 1 by omega, unV, show ch - 2 - (ch - 1 - (i + 1)) = i by omega]
  rw [Xm, Ag7, show ((i + 1 : Nat) : Int) - 1 = (i : Int) by omega, if_pos (by rw [Ci]; simp), e2, e3, Bfw (by omega), Aa, Bfw (by omega), Aa,
   show (at' : Int) + ((i + 1 : Nat) : Int) = ((at' + (i + 1) : Nat) : Int) by omega, show (at' : Int) + (i : Int) = ((at' + i : Nat) : Int) by omega,
   Ajr (by omega), Aa, Ajr (by omega), Aa, Aa, if_pos (by simp; omega), if_neg (by simp; omega), Awy, hv, Atj (by omega), Aa, Bw (by omega) (by omega)]
  have ih := Axo bk at' h1 h6 hm hl hl2 i q (by omega) (by omega)
  rw [← ih]
  congr 1
  apply Abf
  intro k _
  rw [Bool.eq_iff_iff]; simp; omega
theorem Bfm {at' ch n : Nat} (ha : at' % ch = 0) (hm : n % ch = 0) (h : at' < n) : at' + ch ≤ n := by
 have d1 := Nat.div_add_mod at' ch
 have d2 := Nat.div_add_mod n ch
 rw [ha, Nat.add_zero] at d1
 rw [hm, Nat.add_zero] at d2
 have hlt : at' / ch < n / ch := by
  rcases Nat.lt_or_ge (at' / ch) (n / ch) with h' | h'
  ·exact h'
  ·have := Nat.mul_le_mul_left ch h'; omega
 have := Nat.mul_le_mul_left ch (show at' / ch + 1 ≤ n / ch from hlt)
 rw [Nat.mul_add] at this; omega
theorem Az1 (h1 : 1 ≤ ch) (h6 : ch ≤ 6) (hm : m.length % ch = 0) (hl2 : m.length ≤ 4000) : ∀ (j at' q : Nat), at' % ch = 0 → at' ≤ m.length → m.length - at' ≤ j → j < q →
  Sj (ch : Int) q (at' : Int) (sel (fun k => decide (k < at')) (unm ch m) m) = some (unm ch m, 0)
 | j, at', q + 1, ha, hle, hj, hq => by
  have hlen := Apt ch m
  have hl : Ac (sel (fun k => decide (k < at')) (unm ch m) m) = (m.length : Int) := by rw [Ac, Ama, hlen]
  rw [Sj, Am0, hl]
  by_cases h : at' < m.length
  ·have hb := Bfm ha hm h
   obtain ⟨j, rfl⟩ : ∃ k, j = k + 1 := ⟨j - 1, by omega⟩
   have e1 : Ao (Ae (at' : Int) (ch : Int) - (at' : Int)) 1 = ((ch - 1 : Nat) : Int) := by rw [Ag (by omega) (by omega), Bw (by omega) (by omega)]; omega
   have e2 : Ae (at' : Int) (ch : Int) - (at' : Int) = (ch : Int) := by rw [Ag (by omega) (by omega)]; omega
   have e4 : Ae (at' : Int) (ch : Int) = ((at' + ch : Nat) : Int) := by rw [Ag (by omega) (by omega)]; omega
   have hi := Axo ch m (Sj (ch : Int) q) at' h1 h6 ha hb hl2 (ch - 1) Ay (by omega) (by have := As; omega)
   have hrest := Az1 h1 h6 hm hl2 j (at' + ch) q (by rw [Nat.add_mod_right, ha]) hb (by omega) (by omega)
   have hstart : Ag3 (Sj (ch : Int) q) (ch : Int) (at' : Int) (sel (fun k => decide (k < at' ∨ (at' + (ch - 1) ≤ k ∧ k < at' + ch))) (unm ch m) m) = some (unm ch m, 0) := by
    have e6 : Ao ((ch - 1 : Nat) : Int) 1 = ((ch - 1 : Nat) : Int) - 1 := Bw (by omega) (by omega)
    rw [Ag3, Amq, Alv, e1, e6]
    exact Eq.trans hi hrest
   rw [if_pos (by rw [Af]; simp; omega), show vwI (m.length : Int) (at' : Int) (Ae (at' : Int) (ch : Int)) = some () by rw [e4, vwI, Bfw]; omega, Aa, e1, e2]
   have hlast := Avq (m := m) ha (show ch - 1 < ch by omega) (by omega)
   rw [show ch - 1 - (ch - 1) = 0 by omega, unV] at hlast
   by_cases hc : 1 < ch
   ·have e5 : Ao ((ch - 1 : Nat) : Int) 1 = ((ch - 2 : Nat) : Int) := by rw [Bw (by omega) (by omega)]; omega
    rw [if_pos hc] at hlast
    rw [if_pos (by rw [Ap]; simp; omega), Bfw (by omega), Aa, e5, Bfw (by omega), Aa, show (at' : Int) + ((ch - 1 : Nat) : Int) = ((at' + (ch - 1) : Nat) : Int) by omega, show (at' : Int) + ((ch - 2 : Nat) : Int) = ((at' + (ch - 2) : Nat) : Int) by omega,
     Ajr (by omega), Aa, Ajr (by omega), Aa, Aa, if_neg (by simp), if_neg (by simp), Alq, ← hlast, Atj (by omega), Aa]
    rw [← hstart]
    congr 1
    apply Abf
    intro k _
    rw [Bool.eq_iff_iff]; simp; omega
   ·have hc1 : ch = 1 := by omega
    rw [if_neg (by rw [Ap]; simp; omega), ← hstart]
    congr 1
    rw [if_neg hc] at hlast
    apply List.map_congr_left
    intro k hk
    by_cases hk2 : k = at'
    ·subst hk2
     rw [if_neg (by simp), if_pos (by simp; omega)]
     rw [show k + (ch - 1) = k by omega] at hlast
     exact hlast.symm
    ·by_cases hk3 : k < at'
     ·rw [if_pos (by simp; omega), if_pos (by simp; omega)]
     ·rw [if_neg (by simp; omega), if_neg (by simp; omega)]
  ·rw [if_neg (by rw [Af]; simp; omega), Ar5 (fun k hk => by simp; omega)]
   rfl
theorem Bqp (h1 : 1 ≤ ch) (h6 : ch ≤ 6) (hm : m.length % ch = 0) (hl2 : m.length ≤ 4000) : Asu (ch : Int) m = some (unm ch m, 0) := by
 have hlen := Apt ch m
 have h := Az1 ch m h1 h6 hm hl2 m.length 0 Ay (by simp) (by omega) (by omega) (by have := As; omega)
 rw [Asu, Ao0, Boj ch m h1 h6 hm hl2, Aa, if_neg (by rw [Al]; simp), Fq, Eu (by simp; omega), Aa, Aa, List.nil_append, Amk]
 rw [As3 hlen.symm (fun k _ => by simp)] at h
 exact h
end
def Atm (f : Nat → Int32) (ch : Nat) : List Int32 := (List.range ch).map fun i => unV f ch (ch - 1 - i)
theorem Alh (f : Nat → Int32) (ch : Nat) : (Atm f ch).length = ch := by simp [Atm]
theorem As4 (f : Nat → Int32) {ch i : Nat} (h : i < ch) : (Atm f ch).getD i 0 = unV f ch (ch - 1 - i) := by
 rw [Lq (by rw [Alh]; exact h)]; simp [Atm]
theorem Bmt (a b : Int32) : Bp (Ao (Ad a : Int) (Ad b : Int)) = some (a - b) := by
 have := Acm a
 have := Acm b
 rw [Du, Du, Bw (by omega) (by omega), Avv, Int32.ofInt_sub, Int32.ofInt_toInt, Int32.ofInt_toInt]
theorem Bl4 (a b : Int32) : Bp (Ae (Ad a : Int) (Bq (Ad b : Int) (2 : Int))) = some (a + Bq b (2 : Int32)) := by
 have := Acm a
 have hb := Acm b
 have hd : -2147483648 ≤ b.toInt.tdiv 2 ∧ b.toInt.tdiv 2 ≤ 2147483648 := by
  rw [Int.tdiv_eq_ediv, show Int.sign 2 = 1 from rfl]
  by_cases h : 0 ≤ b.toInt ∨ 2 ∣ b.toInt
  ·rw [if_pos h]; omega
  ·rw [if_neg h]; omega
 have e : Bq b (2 : Int32) = Int32.ofInt (b.toInt.tdiv 2) := rfl
 rw [Du, Du, Af1, Bu (by omega) (by omega), Ag (by omega) (by omega), Avv, Int32.ofInt_add, Int32.ofInt_toInt, e]
theorem Atf (seg z : List Int32) (ch : Nat) (h6 : ch ≤ 6) (hs : seg.length = ch) (hz : z.length = ch) : ∀ (i q : Nat), i + 1 ≤ ch → i < q →
  Dy seg q ((i : Int) - 1) (sel (fun k => decide (i ≤ k)) (Atm (fun i => seg.getD i 0) ch) z) = some (Atm (fun i => seg.getD i 0) ch)
 | 0, q + 1, hi, _ => by
  rw [Dy, Jq, if_neg (by rw [Ci]; simp), Ar5 (fun k hk => by simp)]; rfl
 | i + 1, q + 1, hi, hq => by
  have hlen := Alh (fun i => seg.getD i 0) ch
  have e3 : Ae (i : Int) 1 = ((i + 1 : Nat) : Int) := by rw [Ag (by omega) (by omega)]; omega
  have hv : (Atm (fun i => seg.getD i 0) ch).getD (i + 1) 0 - seg.getD i 0 = (Atm (fun i => seg.getD i 0) ch).getD i 0 := by
   rw [As4 _ (by omega), As4 _ (by omega), show ch - 1 - i = (ch - 1 - (i + 1)) + 1 by omega, unV, show ch - 2 - (ch - 1 - (i + 1)) = i by omega]
  rw [Dy, Jq, show ((i + 1 : Nat) : Int) - 1 = (i : Int) by omega, if_pos (by rw [Ci]; simp), e3, Ajr (by omega), Aa, g32 (by omega), Aa, Aa, if_pos (by simp), Bmt, Aa, Ajr (by omega), Aa, hv, Atj (by omega), Aa, Bw (by omega) (by omega)]
  have ih := Atf seg z ch h6 hs hz i q (by omega) (by omega)
  rw [← ih]
  congr 1
  apply Abf
  intro k _
  rw [Bool.eq_iff_iff]; simp; omega
theorem Bdt {l : List Int32} {i : Nat} (v : Int32) (h : i < l.length) : (l.set i v).getD i 0 = v := by
 rw [Lq (by rw [List.length_set]; exact h)]; simp
theorem Bhp (seg : List Int32) (ch : Nat) (h1 : 1 ≤ ch) (h6 : ch ≤ 6) (hs : seg.length = ch) : Nj seg = some (Atm (fun i => seg.getD i 0) ch) := by
 have hlen := Alh (fun i => seg.getD i 0) ch
 have hzl : (List.replicate ch (0 : Int32)).length = ch := by simp
 have e1 : Ao (Ac seg) 1 = ((ch - 1 : Nat) : Int) := by rw [Ac, hs, Bw (by omega) (by omega)]; omega
 have e2 : Ao (Ac seg) 2 = ((ch - 1 : Nat) : Int) - 1 := by rw [Ac, hs, Bw (by omega) (by omega)]; omega
 have hlast := As4 (fun i => seg.getD i 0) (show ch - 1 < ch by omega)
 rw [show ch - 1 - (ch - 1) = 0 by omega, unV] at hlast
 have hend : ∀ z : List Int32, z.length = ch → z.getD (ch - 1) 0 = (Atm (fun i => seg.getD i 0) ch).getD (ch - 1) 0 → Jk seg z = some (Atm (fun i => seg.getD i 0) ch) := by
  intro z hz hzl
  have h := Atf seg z ch h6 hs hz (ch - 1) Ay (by omega) (by have := As; omega)
  have e : sel (fun k => decide (ch - 1 ≤ k)) (Atm (fun i => seg.getD i 0) ch) z = z := by
   apply List.ext_getElem (by rw [Ama, hlen, hz])
   intro k k1 k2
   rw [Aa0]
   by_cases hk : ch - 1 ≤ k
   ·obtain rfl : k = ch - 1 := by omega
    rw [if_pos (by simp), ← hzl, Lq k2]
   ·rw [if_neg (by simpa using hk), Lq k2]
  rw [e] at h
  rw [Jk, Qc, e2]
  exact h
 rw [Nj, Qu, Ac, hs, Awr (by omega) (by omega), Aa, Ca (by rw [Az]; simp), Aa]
 rw [Ac, hs] at e1
 rw [Ac, hs] at e2
 have hz1 : (List.replicate (Int.toNat (ch : Int)) (0 : Int32)).length = ch := by simp
 have hs1 := g32 (l := seg) (k := ch - 1) (by omega)
 rw [e1, hs1, Aa, g32 (by omega), Aa, Yh _ (by omega), Aa]
 by_cases hc : 1 < ch
 ·rw [if_pos hc] at hlast
  have e3 : ((ch - 1 : Nat) : Int) - 1 = ((ch - 2 : Nat) : Int) := by omega
  have hs2 := g32 (l := seg) (k := ch - 2) (by omega)
  rw [if_pos (by rw [Ap]; simp; omega), Aa, e2, e3, hs2, Aa, Bl4, Aa, g32 (by rw [List.length_set]; omega), Aa, Yh _ (by rw [List.length_set]; omega), Aa]
  refine hend _ (by simp) ?_
  rw [hlast, Bdt _ (by rw [List.length_set]; omega)]
 ·rw [if_neg hc] at hlast
  rw [if_neg (by rw [Ap]; simp; omega)]
  refine hend _ (by simp) ?_
  rw [hlast, Bdt _ (by omega)]
theorem Brg (ch : Nat) (m : List Int32) (h1 : 1 ≤ ch) (h6 : ch ≤ 6) (hm : m.length % ch = 0) (hl2 : m.length ≤ 4000) : Lj (ch : Int) m = some 0 := by
 rw [Lj, if_neg (by simp [Af, Ap]; omega), if_neg (by rw [Ap, Ac]; simp; omega), Ca (by rw [Al]; simp; omega), Aa, if_neg]
 rw [Ap, Il, Ac, ← Int.ofNat_tmod, hm]; simp
theorem Auu (ch : Nat) (m : List Int32) (h1 : 1 ≤ ch) (h6 : ch ≤ 6) (hm : m.length % ch = 0) (hl2 : m.length ≤ 4000) : ∀ (j at' q : Nat), at' % ch = 0 → at' ≤ m.length → m.length - at' ≤ j → j < q →
  Ix (ch : Int) m q (at' : Int) ((unm ch m).take at') = some (unm ch m, 0)
 | j, at', q + 1, ha, hle, hj, hq => by
  have hlen := Apt ch m
  rw [Ix, Wg]
  by_cases h : at' < m.length
  ·have hb := Bfm ha hm h
   have e4 : Ae (at' : Int) (ch : Int) = ((at' + ch : Nat) : Int) := by rw [Ag (by omega) (by omega)]; omega
   have hrest := Auu ch m h1 h6 hm hl2 (j - 1) (at' + ch) q (by rw [Nat.add_mod_right, ha]) hb (by omega) (by omega)
   have hseg : ((m.take (at' + ch)).drop at').length = ch := by simp; omega
   have htl : ((unm ch m).take at').length = at' := by simp [hlen]; omega
   rw [if_pos (by rw [Af, Ac]; simp; omega), e4, Aml (by omega) (by omega) (by omega), Aa, show ((at' + ch : Nat) : Int).toNat = at' + ch from rfl, show (at' : Int).toNat = at' from rfl, Bhp _ ch h1 h6 hseg, Aa, Eu (by rw [htl, Alh]; omega), Aa]
   have e : (unm ch m).take at' ++ Atm (fun i => ((m.take (at' + ch)).drop at').getD i 0) ch = (unm ch m).take (at' + ch) := by
    apply List.ext_getElem (by rw [List.length_append, htl, Alh, List.length_take, hlen]; omega)
    intro k k1 k2
    rw [List.length_take, hlen] at k2
    rw [List.getElem_append, List.getElem_take]
    by_cases hk : k < at'
    ·rw [dif_pos (by rw [htl]; exact hk), List.getElem_take]
    ·rw [dif_neg (by rw [htl]; exact hk)]
     have hu := Avq (m := m) ha (show k - at' < ch by omega) (by omega)
     rw [show at' + (k - at') = k by omega, Lq (by omega)] at hu
     have hx : ∀ n, n ≤ ch → unV (fun i => ((m.take (at' + ch)).drop at').getD i 0) ch n = unV (fun i => m.getD (at' + i) 0) ch n := by
      have hf : ∀ i, i < ch → ((m.take (at' + ch)).drop at').getD i 0 = m.getD (at' + i) 0 := by
       intro i hi
       rw [Lq (by omega), Lq (by omega)]; simp
      intro n
      induction n with
      | zero =>
       intro _; rw [unV, unV, hf _ (by omega)]; split
       ·rw [hf _ (by omega)]
       ·rfl
      | succ n ih => intro hn; rw [unV, unV, ih (by omega), hf _ (by omega)]
     have hy := As4 (fun i => ((m.take (at' + ch)).drop at').getD i 0) (show k - at' < ch by omega)
     rw [Lq (by rw [Alh]; omega)] at hy
     rw [hu, ← hx _ (by omega), ← hy]
     congr 1
     rw [htl]
   rw [e]
   exact hrest
  ·rw [if_neg (by rw [Af, Ac]; simp; omega), List.take_of_length_le (by omega)]; rfl
theorem Bk7 (ch : Nat) (m : List Int32) (h1 : 1 ≤ ch) (h6 : ch ≤ 6) (hm : m.length % ch = 0) (hl2 : m.length ≤ 4000) : Vn (ch : Int) m = some (unm ch m, 0) := by
 have h := Auu ch m h1 h6 hm hl2 m.length 0 Ay (by simp) (by omega) (by omega) (by have := As; omega)
 rw [Vn, Xe, Brg ch m h1 h6 hm hl2, Aa, if_neg (by rw [Al]; simp)]
 exact h
end Go.Pl
set_option linter.unusedVariables false
set_option linter.unusedSimpArgs false
namespace Go.Pl
open Go Go.Lv
def pre {α : Type} (ch c : Nat) (f : α → Nat → α) (a0 : α) : Nat → α
 | 0 => a0
 | m + 1 => if m % ch = c then f (pre ch c f a0 m) m else pre ch c f a0 m
theorem Bic {α : Type} (ch c : Nat) (f : α → Nat → α) (a0 : α) : ∀ m, m ≤ c → c < ch → pre ch c f a0 m = a0
 | 0, _, _ => rfl
 | m + 1, h, h2 => by rw [pre, if_neg (by rw [Nat.mod_eq_of_lt (by omega)]; omega), Bic ch c f a0 m (by omega) h2]
theorem Bds {α : Type} (ch c i : Nat) (f : α → Nat → α) (a0 : α) (hi : i % ch = c) (hc : c < ch) : ∀ j, j < ch → pre ch c f a0 (i + 1 + j) = pre ch c f a0 (i + 1)
 | 0, _ => rfl
 | j + 1, h => by
  have hne : (i + 1 + j) % ch ≠ c := by
   intro e
   have h1 : (i + (1 + j)) % ch = i % ch := by rw [hi, ← e]; congr 1; omega
   have h2 : (1 + j) % ch = 0 := by
    have h3 := Nat.sub_mod_eq_zero_of_mod_eq h1
    rwa [Nat.add_sub_cancel_left] at h3
   rw [Nat.mod_eq_of_lt (by omega)] at h2; omega
  rw [show i + 1 + (j + 1) = (i + 1 + j) + 1 by omega, pre, if_neg hne, Bds ch c i f a0 hi hc j (by omega)]
theorem Bo3 {α : Type} (ch c i : Nat) (f : α → Nat → α) (a0 : α) (hi : i % ch = c) (hc : c < ch) : pre ch c f a0 (i + ch) = f (pre ch c f a0 i) i := by
 have h := Bds ch c i f a0 hi hc (ch - 1) (by omega)
 rw [show i + 1 + (ch - 1) = i + ch by omega] at h
 rw [h, pre, if_pos hi]
abbrev CS := Int32 × List Int32 × List Int32
def Bnd (bits : Int) (s : CS) (y : Int32) : Int32 := y + gF (sB bits) s.2.1 s.2.2 + gs (shB bits) s.1
def Biy (bits : Int) (s : CS) (y : Int32) : CS := (Bnd bits s y, lrn s.2.1 s.2.2 y, (y + gF (sB bits) s.2.1 s.2.2) :: s.2.2.take 15)
def cst (bits : Int) (ch : Nat) (t : List Int32) (v : List UInt32) (c : Nat) : Nat → CS := pre ch c (fun s i => Biy bits s (Anh (v.getD i 0))) (0, t, List.replicate 16 0)
def OkC (bits : Int) (s : CS) : Prop := OkF (sB bits) s.2.1 s.2.2
theorem Bgf (bits : Int) (ch : Nat) {t : List Int32} (ht : t.length = 16) (v : List UInt32) (c : Nat) : ∀ m, OkC bits (cst bits ch t v c m)
 | 0 => ⟨Bva bits, ht, by simp [cst, pre]⟩
 | m + 1 => by
  have ih := Bgf bits ch ht v c m
  rw [cst, pre]
  split
  ·exact Bnu ih _ _
  ·exact ih
def smp (bits : Int) (ch : Nat) (t : List Int32) (v : List UInt32) : List Int32 := (List.range v.length).map fun i => Bnd bits (cst bits ch t v (i % ch) i) (Anh (v.getD i 0))
theorem Apv (bits : Int) (ch : Nat) (t : List Int32) (v : List UInt32) : (smp bits ch t v).length = v.length := by simp [smp]
theorem Bj2 (bits : Int) (ch : Nat) (t : List Int32) (v : List UInt32) {i : Nat} (h : i < v.length) : (smp bits ch t v).getD i 0 = Bnd bits (cst bits ch t v (i % ch) i) (Anh (v.getD i 0)) := by
 rw [Lq (by rw [Apv]; exact h)]; simp [smp]
abbrev CL := Int × Int32 × (Int × (List Int32) × (List Int32) × Unit) × Unit
def toC (bits : Int) (s : CS) : CL := (bits, s.1, (sB bits, s.2.1, s.2.2, ()), ())
def cts (bits : Int) (ch : Nat) (t : List Int32) (v : List UInt32) (i : Nat) : List CL := (List.range 6).map fun c => toC bits (cst bits ch t v c i)
theorem Bqf {bits : Int} {ch : Nat} {t : List Int32} {v : List UInt32} {i c : Nat} (h : c < 6) : Aj (cts bits ch t v i) (c : Int) = some (toC bits (cst bits ch t v c i)) := by
 rw [Cl (by simp [cts]; exact h)]; simp [cts]
theorem Bef (bits : Int) (ch : Nat) (t : List Int32) (v : List UInt32) (c m : Nat) : cst bits ch t v c (m + 1) = if m % ch = c then Biy bits (cst bits ch t v c m) (Anh (v.getD m 0)) else cst bits ch t v c m := rfl
theorem Brk {bits : Int} {ch : Nat} {t : List Int32} {v : List UInt32} {i c : Nat} (h : c < 6) (hc : i % ch = c) : Rb (cts bits ch t v i) (c : Int) (toC bits (Biy bits (cst bits ch t v c i) (Anh (v.getD i 0)))) = some (cts bits ch t v (i + 1)) := by
 rw [Yh _ (by simp [cts]; exact h)]
 congr 1
 apply List.ext_getElem (by simp [cts])
 intro k h1 h2
 rw [List.getElem_set]
 simp only [cts, List.getElem_map, List.getElem_range]
 by_cases hk : c = k
 ·subst hk; rw [if_pos rfl, Bef, if_pos hc]
 ·rw [if_neg hk, Bef, if_neg (by omega)]
section
variable {bits : Int} {ch : Nat} {t : List Int32} {v : List UInt32}
theorem Bdz (hb : Ce bits) (ht : t.length = 16) (h1 : 1 ≤ ch) (h6 : ch ≤ 6) (hv : v.length ≤ 4000) : ∀ (j i q : Nat), i + j = v.length → j < q →
  Ho v (ch : Int) bits q (i : Int) (cts bits ch t v i) ((smp bits ch t v).take i) = Kc (ch : Int) bits (smp bits ch t v)
 | 0, i, q + 1, hi, _ => by
  rw [Ho, Jz, if_neg (by rw [Af, Ac]; simp; omega), List.take_of_length_le (by rw [Apv]; omega)]
 | j + 1, i, q + 1, hi, hq => by
  have hlen := Apv bits ch t v
  have hc : i % ch < 6 := Nat.lt_of_lt_of_le (Nat.mod_lt _ (by omega)) h6
  have hok := Bgf bits ch ht v (i % ch) i
  have hs := Brk (bits := bits) (ch := ch) (t := t) (v := v) (i := i) hc rfl
  have hx := Bj2 bits ch t v (i := i) (by omega)
  have hcb := Blm hb hok (cst bits ch t v (i % ch) i).1 (Anh (v.getD i 0))
  have ih := Bdz hb ht h1 h6 hv j (i + 1) q (by omega) (by omega)
  rw [All (by omega), ← Lq (by omega), hx] at ih
  rw [Ho, Jz, if_pos (by rw [Af, Ac]; simp; omega), Azc (by omega), Aa, Ca (by rw [Al]; simp; omega), Aa, Ar2, Bqf hc, Aa, Aa, Bor, Aa]
  refine Eq.trans (congrArg (fun o => Option.bind o _) hcb) ?_
  rw [Aa]
  simp only
  rw [Yv, Agl, if_neg (by rw [Al]; simp), Ar2]
  refine Eq.trans (congrArg (fun o => Option.bind o _) hs) ?_
  rw [Aa, Eu (by simp; omega), Aa, Ag (by omega) (by omega)]
  exact ih
theorem Bj7 (hb : Ce bits) (ht : t.length = 16) (h1 : 1 ≤ ch) (h6 : ch ≤ 6) (hv : v.length ≤ 4000) : Tk (ch : Int) bits t v = Kc (ch : Int) bits (smp bits ch t v) := by
 have h := Bdz hb ht h1 h6 hv v.length 0 Ay (by omega) (by have := As; omega)
 have e : Ay = (Ay - 7) + 1 + 1 + 1 + 1 + 1 + 1 + 1 := by have := As; omega
 have hs : Pj v (ch : Int) bits t 0 (List.replicate 6 ((0 : Int), (0 : Int32), ((0 : Int), (List.replicate 16 (0 : Int32)), (List.replicate 16 (0 : Int32)), ()), ())) = Yi v (ch : Int) bits (cts bits ch t v 0) := by
  rw [Pj, e]
  obtain rfl | rfl | rfl := hb <;> rfl
 rw [Tk, Aaj, hs]
 exact h
theorem Azs (bk : Int → List Int32 → Option (List Int32)) (hb : Ce bits) (ht : t.length = 16) (h1 : 1 ≤ ch) (h6 : ch ≤ 6) (hv : v.length ≤ 4000) (z : List Int32) (c : Nat) (hc : c < ch) : ∀ (j i q : Nat), i % ch = c → v.length - i ≤ j → i ≤ 5000 → j < q →
  Gh bk v (ch : Int) bits t (c : Int) q (i : Int) (sel (fun k => decide (k % ch < c ∨ (k % ch = c ∧ k < i))) (smp bits ch t v) z) bits (cst bits ch t v c i).1 (sB bits) (cst bits ch t v c i).2.1 (cst bits ch t v c i).2.2 =
   bk ((c + 1 : Nat) : Int) (sel (fun k => decide (k % ch < c + 1)) (smp bits ch t v) z)
 | j, i, q + 1, hi, hj, hi5, hq => by
  have hlen := Apv bits ch t v
  rw [Gh, Jj]
  by_cases h : i < v.length
  ·have hok := Bgf bits ch ht v c i
   have hst := Bkj hb hok (cst bits ch t v c i).1 (Anh (v.getD i 0))
   have hx := Bj2 bits ch t v (i := i) h
   rw [hi] at hx
   have ih := Azs bk hb ht h1 h6 hv z c hc (j - 1) (i + ch) q (by rw [Nat.add_mod_right]; exact hi) (by omega) (by omega) (by omega)
   have hstep : cst bits ch t v c (i + ch) = Biy bits (cst bits ch t v c i) (Anh (v.getD i 0)) := Bo3 ch c i _ _ hi hc
   rw [hstep] at ih
   have hset := Atj (p := fun k => decide (k % ch < c ∨ (k % ch = c ∧ k < i))) (a := smp bits ch t v) (b := z) (k := i) (by omega)
   rw [hx] at hset
   have hcong : sel (fun j => decide (j % ch < c ∨ (j % ch = c ∧ j < i)) || decide (j = i)) (smp bits ch t v) z = sel (fun k => decide (k % ch < c ∨ (k % ch = c ∧ k < i + ch))) (smp bits ch t v) z := by
    apply Abf
    intro k _
    rw [Bool.eq_iff_iff]
    simp only [Bool.or_eq_true, decide_eq_true_eq]
    constructor
    ·rintro ((h1 | h1) | h1)
     ·exact .inl h1
     ·exact .inr ⟨h1.1, by omega⟩
     ·subst h1; exact .inr ⟨hi, by omega⟩
    ·rintro (h1 | ⟨h1, h2⟩)
     ·exact .inl (.inl h1)
     ·by_cases h3 : k < i
      ·exact .inl (.inr ⟨h1, h3⟩)
      ·refine .inr ?_
       have h4 : (i + (k - i)) % ch = i % ch := by rw [show i + (k - i) = k by omega, h1, hi]
       have h5 := Nat.sub_mod_eq_zero_of_mod_eq h4
       rw [Nat.add_sub_cancel_left, Nat.mod_eq_of_lt (by omega)] at h5
       omega
   rw [hcong] at hset
   rw [if_pos (by rw [Af, Ac]; simp; omega), Azc h, Aa, Brn, Aa]
   refine Eq.trans (congrArg (fun o => Option.bind o _) hst) ?_
   rw [Aa]
   simp only
   rw [Pw, Qs, Ajr (by omega), Aa]
   refine Eq.trans (congrArg (fun o => Option.bind o _) hset) ?_
   rw [Aa, Pz, Aa5, Ag (by omega) (by omega)]
   exact ih
  ·rw [if_neg (by rw [Af, Ac]; simp; omega), Ra, Abe, Ag (by omega) (by omega)]
   have hcong : sel (fun k => decide (k % ch < c ∨ (k % ch = c ∧ k < i))) (smp bits ch t v) z = sel (fun k => decide (k % ch < c + 1)) (smp bits ch t v) z := by
    apply Abf
    intro k hk
    rw [Bool.eq_iff_iff]
    simp only [decide_eq_true_eq]
    omega
   rw [hcong]; rfl
theorem Ba8 (hb : Ce bits) (ht : t.length = 16) (h1 : 1 ≤ ch) (h6 : ch ≤ 6) (hv : v.length ≤ 4000) (z : List Int32) : ∀ (j c q : Nat), c + j = ch → j < q →
  Ct v (ch : Int) bits t q (c : Int) (sel (fun k => decide (k % ch < c)) (smp bits ch t v) z) = Jh (ch : Int) bits (smp bits ch t v)
 | 0, c, q + 1, hc, _ => by
  rw [Ct, Jl, if_neg (by rw [Af]; simp; omega), Ar5 (fun k hk => by have := Nat.mod_lt k (show 0 < ch by omega); simp; omega)]
 | j + 1, c, q + 1, hc, hq => by
  have ih := Ba8 hb ht h1 h6 hv z j (c + 1) q (by omega) (by omega)
  have hin := Azs (Ct v (ch : Int) bits t q) hb ht h1 h6 hv z c (by omega) v.length c Ay (Nat.mod_eq_of_lt (by omega)) (by omega) (by omega) (by have := As; omega)
  have h0 : cst bits ch t v c c = (0, t, List.replicate 16 0) := Bic ch c _ _ c (Nat.le_refl _) (by omega)
  rw [h0] at hin
  have hcong : sel (fun k => decide (k % ch < c ∨ (k % ch = c ∧ k < c))) (smp bits ch t v) z = sel (fun k => decide (k % ch < c)) (smp bits ch t v) z := by
   apply Abf
   intro k hk
   have := Nat.mod_le k ch
   rw [Bool.eq_iff_iff]
   simp only [decide_eq_true_eq]
   omega
  rw [hcong] at hin
  rw [Ct, Jl, if_pos (by rw [Af]; simp; omega), Bvc hb, Aa]
  simp only
  rw [Qh]
  exact Eq.trans hin ih
theorem Blf (hb : Ce bits) (ht : t.length = 16) (h1 : 1 ≤ ch) (h6 : ch ≤ 6) (hv : v.length ≤ 4000) (hm : v.length % ch = 0) : Hm (ch : Int) bits t v = some (unm ch (smp bits ch t v)) := by
 have hlen := Apv bits ch t v
 have h := Ba8 hb ht h1 h6 hv (List.replicate v.length 0) ch 0 Ay (by omega) (by have := As; omega)
 rw [As3 (by rw [hlen]; simp) (fun k _ => by simp)] at h
 rw [Hm, Sp, Ac, Awr (by omega) (by omega), Aa, Ca (by rw [Az]; simp), Aa, Qy]
 refine Eq.trans h ?_
 rw [Jh, Aa1, Bk7 ch _ h1 h6 (by rw [hlen]; exact hm) (by omega), Aa]
end
def hB (bits : Int) : Int := if bits = 8 then 128 else if bits = 16 then 32768 else 8388608
theorem Bhq {bits : Int} (h : Ce bits) : Wy bits = some (Int32.ofInt (-(hB bits)), Int32.ofInt (hB bits - 1), 0) := by
 obtain rfl | rfl | rfl := h <;> decide
theorem Aum {bits : Int} (h : Ce bits) : Ez bits = some (hB bits) := by
 obtain rfl | rfl | rfl := h <;> rfl
theorem Aq2 (bits : Int) : 0 < hB bits ∧ hB bits ≤ 8388608 := by
 unfold hB; split; · omega
 ·split <;> omega
theorem Ayf {bits : Int} (h : Ce bits) (l : List Int32) (hl : l.length ≤ 4000) : ∀ (j i q : Nat), i + j = l.length → j < q →
  Qx (Int32.ofInt (-(hB bits))) (Int32.ofInt (hB bits - 1)) l q (i : Int) = Bd l (hB bits) q (i : Int)
 | 0, i, q + 1, hi, _ => by
  rw [Qx, Abp, Bd, Cr, if_neg (by rw [Af, Ac]; simp; omega), if_neg (by rw [Af, Ac]; simp; omega)]; rfl
 | j + 1, i, q + 1, hi, hq => by
  have hh := Aq2 bits
  have ih := Ayf h l hl j (i + 1) q (by omega) (by omega)
  have e1 : (Int32.ofInt (-(hB bits))).toInt = -(hB bits) := by rw [Int32.toInt_ofInt, Int.bmod_eq_of_le (by show -(4294967296 / 2 : Int) ≤ _; omega) (by show _ < (4294967296 + 1) / 2; omega)]
  have e2 : (Int32.ofInt (hB bits - 1)).toInt = hB bits - 1 := by rw [Int32.toInt_ofInt, Int.bmod_eq_of_le (by show -(4294967296 / 2 : Int) ≤ _; omega) (by show _ < (4294967296 + 1) / 2; omega)]
  rw [Qx, Abp, Bd, Cr, if_pos (by rw [Af, Ac]; simp; omega), if_pos (by rw [Af, Ac]; simp; omega), g32 (by omega), Aa, Aa, Aa, Du, Bhs, Bu (by omega) (by omega), Ag (by omega) (by omega), Bbm, Bhv, e1, e2, Af, Ci]
  generalize (l.getD i 0).toInt = X
  by_cases h1 : X < -(hB bits)
  ·rw [if_pos (by simp; omega), if_pos (by simp; omega)]
  ·rw [if_neg (c := decide (X < 0 - hB bits) = true) (by simp; omega)]
   by_cases h2 : hB bits ≤ X
   ·rw [if_pos (by simp; omega), if_pos (by simp; omega)]
   ·rw [if_neg (by simp; omega), if_neg (by simp; omega)]; exact ih
theorem Arw {bits : Int} (h : Ce bits) (l : List Int32) (hl : l.length ≤ 4000) : Aa3 bits l = Au bits l := by
 have hh := Aq2 bits
 rw [Aa3, Ahu, Bhq h, Aa, Au, Fh, Aum h, Aa]
 simp only
 rw [if_neg (by rw [Al]; simp), if_neg (by rw [Ap, Ac]; simp; omega), if_neg (by rw [Az]; simp; omega), if_neg (by rw [Ap, Ac]; simp; omega)]
 exact Ayf h l hl l.length 0 Ay (by omega) (by have := As; omega)
theorem Aq4 {bits : Int} (h : Ce bits) (l : List Int32) (hl : l.length ≤ 4000) : ∃ e, Au bits l = some e := by
 have hh := Aq2 bits
 have key : ∀ (j i q : Nat), i + j = l.length → j < q → ∃ e, Bd l (hB bits) q (i : Int) = some e := by
  intro j
  induction j with
  | zero =>
   intro i q hi hq
   obtain ⟨q, rfl⟩ : ∃ k, q = k + 1 := ⟨q - 1, by omega⟩
   rw [Bd, Cr, if_neg (by rw [Af, Ac]; simp; omega)]
   exact ⟨_, rfl⟩
  | succ j ih =>
   intro i q hi hq
   obtain ⟨q, rfl⟩ : ∃ k, q = k + 1 := ⟨q - 1, by omega⟩
   rw [Bd, Cr, if_pos (by rw [Af, Ac]; simp; omega), g32 (by omega), Aa, Aa, Ag (by omega) (by omega)]
   split
   ·exact ⟨_, rfl⟩
   ·split
    ·exact ⟨_, rfl⟩
    ·exact ih (i + 1) q (by omega) (by omega)
 obtain ⟨e, he⟩ := key l.length 0 Ay (by omega) (by have := As; omega)
 rw [Au, Fh, Aum h, Aa, if_neg (by rw [Az]; simp; omega), if_neg (by rw [Ap, Ac]; simp; omega)]
 exact ⟨e, he⟩
theorem Asf {bits : Int} {ch : Nat} {t : List Int32} {v : List UInt32} (hb : Ce bits) (ht : t.length = 16) (h1 : 1 ≤ ch) (h6 : ch ≤ 6) (hv : v.length ≤ 4000) (hm : v.length % ch = 0) :
  ∃ l e, Hm (ch : Int) bits t v = some l ∧ Ka (ch : Int) bits l = some (if e ≠ 0 then ([], e) else (l, 0)) ∧ Tk (ch : Int) bits t v = some (if e ≠ 0 then ([], e) else (l, 0)) ∧ Au bits l = some e ∧ l.length = v.length := by
 have hlen := Apv bits ch t v
 have hul := Apt ch (smp bits ch t v)
 obtain ⟨e, he⟩ := Aq4 hb (unm ch (smp bits ch t v)) (by omega)
 refine ⟨unm ch (smp bits ch t v), e, Blf hb ht h1 h6 hv hm, ?_, ?_, he, by omega⟩
 ·rw [Ka, he, Aa]
  by_cases h : e = 0
  ·rw [if_neg (by rw [Al]; simpa using h), if_neg (by simpa using h)]
  ·rw [if_pos (by rw [Al]; simpa using h), if_pos h]
 ·rw [Bj7 hb ht h1 h6 hv, Kc, Agp, Bqp ch _ h1 h6 (by rw [hlen]; exact hm) (by omega), Aa]
  simp only
  rw [if_neg (by rw [Al]; simp), Arw hb _ (by omega), he, Aa]
  by_cases h : e = 0
  ·rw [if_neg (by rw [Al]; simpa using h), if_neg (by simpa using h)]
  ·rw [if_pos (by rw [Al]; simpa using h), if_pos h]
end Go.Pl
set_option linter.unusedVariables false
set_option linter.unusedSimpArgs false
namespace Go.Pl
open Go Go.Lv
def Aou (s : Nat) : Nat := (s / 2) ^^^ (if s % 2 = 1 then 3988292384 else 0)
theorem Awk {s : Nat} (h : s < 4294967296) : Aou s < 4294967296 := by
 unfold Aou
 exact Nat.xor_lt_two_pow (n := 32) (by simp; omega) (by split <;> decide)
theorem Bed (x y : Nat) : (x ^^^ y) / 2 = (x / 2) ^^^ (y / 2) := by
 have := Nat.shiftRight_xor_distrib (a := x) (b := y) (i := 1)
 simpa [Nat.shiftRight_eq_div_pow] using this
theorem Bkk (x y : Nat) : Aou (x ^^^ y) = Aou x ^^^ Aou y := by
 have h : (x ^^^ y) % 2 = (x % 2 + y % 2) % 2 := by
  have := Nat.xor_mod_two_eq_one (a := x) (b := y)
  have h1 : (x ^^^ y) % 2 < 2 := Nat.mod_lt _ (by omega)
  omega
 simp only [Aou, Bed, h]
 have hx : x % 2 = 0 ∨ x % 2 = 1 := by omega
 have hy : y % 2 = 0 ∨ y % 2 = 1 := by omega
 rcases hx with hx | hx <;> rcases hy with hy | hy <;> simp only [hx, hy] <;> simp
 ·rw [Nat.xor_assoc]
 ·rw [Nat.xor_assoc, Nat.xor_comm (y / 2), Nat.xor_assoc, Nat.xor_comm 3988292384 (y/2)]
 ·rw [Nat.xor_assoc, Nat.xor_comm 3988292384, Nat.xor_assoc, Nat.xor_self]; simp
def Xy : Nat → Nat → Nat
 | 0, s => s
 | k + 1, s => Xy k (Aou s)
theorem Baz : ∀ (k x y : Nat), Xy k (x ^^^ y) = Xy k x ^^^ Xy k y
 | 0, _, _ => rfl
 | k + 1, x, y => by rw [Xy, Bkk, Baz k]; rfl
theorem Bae : ∀ (k h : Nat), Xy k (2 ^ k * h) = h
 | 0, h => by simp [Xy]
 | k + 1, h => by
  have : Aou (2 ^ (k + 1) * h) = 2 ^ k * h := by
   rw [Nat.pow_succ, Nat.mul_comm (2 ^ k) 2, Nat.mul_assoc, Aou, if_neg (by omega), Nat.mul_div_cancel_left _ (by omega)]; simp
  rw [Xy, this, Bae k]
theorem Awa : ∀ (k : Nat) {s : Nat}, s < 4294967296 → Xy k s < 4294967296
 | 0, _, h => h
 | k + 1, _, h => Awa k (Awk h)
def Aup (s c : Nat) : Nat := Xy 8 (s ^^^ c)
theorem Axp {s c : Nat} (h : s < 4294967296) (hc : c < 256) : Aup s c < 4294967296 := Awa 8 (Nat.xor_lt_two_pow (n := 32) (by simpa using h) (by simp; omega))
theorem Bd5 {s c : Nat} (hc : c < 256) : Aup s c = (s / 256) ^^^ Xy 8 ((s % 256) ^^^ c) := by
 have h : s = (2 ^ 8 * (s / 256)) ^^^ (s % 256) := by
  have h1 : s % 256 < 2 ^ 8 := by simpa using Nat.mod_lt s (by omega : 256 > 0)
  have := Nat.two_pow_add_eq_or_of_lt h1 (s / 256)
  have h2 : 2 ^ 8 * (s / 256) ||| s % 256 = (2 ^ 8 * (s / 256)) ^^^ (s % 256) := by
   apply Nat.eq_of_testBit_eq; intro i
   rw [Nat.testBit_or, Nat.testBit_xor]
   by_cases hi : i < 8
   ·have : (2 ^ 8 * (s / 256)).testBit i = false := by rw [Nat.testBit_two_pow_mul]; simp; omega
    rw [this]; simp
   ·have : (s % 256).testBit i = false := Nat.testBit_lt_two_pow (Nat.lt_of_lt_of_le h1 (Nat.pow_le_pow_right (by omega) (by omega)))
    rw [this]; simp
  omega
 rw [Aup]
 conv => lhs; rw [h]
 rw [Nat.xor_assoc, Baz, Bae]
def Bli (s : Nat) (l : List UInt8) : Nat := l.foldl (fun s c => Aup s c.toNat) s
def Gw (b : List UInt8) : UInt32 := 4294967295 - UInt32.ofNat (Bli 4294967295 b)
theorem Bsb (s : UInt32) (c : Nat) (hc : c < 256) : Vl s (Ad (Abg (UInt8.ofNat c) (2 : UInt8)) : Int) = some (UInt32.ofNat (s.toNat / 2 ^^^ (if (s.toNat ^^^ c) % 2 = 1 then 3988292384 else 0))) := by
 have h1 : (Ad (Abg (UInt8.ofNat c) (2 : UInt8)) : Int) = ((c % 2 : Nat) : Int) := by
  rw [Ahm, Bq3, UInt8.toNat_mod, UInt8.toNat_ofNat']
  show ((c % 256 % 2 : Nat) : Int) = _
  omega
 have h2 : geq (Abg s (2 : UInt32)) (1 : UInt32) = decide (s.toNat % 2 = 1) := by
  rw [Bbz, Beu, Bool.eq_iff_iff]
  simp only [beq_iff_eq, decide_eq_true_eq]
  rw [← UInt32.toNat_inj, UInt32.toNat_mod]; rfl
 have h3 : Bq s (2 : UInt32) = UInt32.ofNat (s.toNat / 2) := by
  apply UInt32.toNat_inj.1
  rw [Bev, UInt32.toNat_div, UInt32.toNat_ofNat']
  show s.toNat / 2 = _
  have := s.toNat_lt
  omega
 have h4 : Zi (Bq s (2 : UInt32)) (3988292384 : UInt32) = UInt32.ofNat (s.toNat / 2 ^^^ 3988292384) := by
  apply UInt32.toNat_inj.1
  rw [h3, As2, UInt32.toNat_xor, UInt32.toNat_ofNat', UInt32.toNat_ofNat']
  have := s.toNat_lt
  rw [Nat.mod_eq_of_lt (a := s.toNat / 2) (by omega), Nat.mod_eq_of_lt]
  ·rfl
  ·exact Nat.xor_lt_two_pow (n := 32) (by omega) (by decide)
 have hx : (s.toNat ^^^ c) % 2 = (s.toNat % 2 + c % 2) % 2 := by
  have := Nat.xor_mod_two_eq_one (a := s.toNat) (b := c)
  have h1 : (s.toNat ^^^ c) % 2 < 2 := Nat.mod_lt _ (by omega)
  omega
 have hs : s.toNat % 2 = 0 ∨ s.toNat % 2 = 1 := by omega
 have hc2 : c % 2 = 0 ∨ c % 2 = 1 := by omega
 rw [Vl, Vw, h1, h2, hx]
 rcases hs with hs | hs <;> rcases hc2 with hc2 | hc2 <;> simp [hs, hc2, Az, Wc, Afl, As2, h3]
theorem Ave : ∀ (j i q : Nat) (s : UInt32) (c : Nat), i + j = 8 → j < q → c < 2 ^ j → Gj q s (UInt8.ofNat c) (i : Int) = some (UInt32.ofNat (Xy j (s.toNat ^^^ c)))
 | 0, i, q + 1, s, c, hi, _, hc => by
  obtain rfl : i = 8 := by omega
  obtain rfl : c = 0 := by simpa using hc
  rw [Gj, Nm, if_neg (by rw [Af]; simp), Wf, Afo, Xy]
  simp
 | j + 1, i, q + 1, s, c, hi, hq, hc => by
  have hc8 : c < 256 := Nat.lt_of_lt_of_le hc (show 2 ^ (j + 1) ≤ 2 ^ 8 from Nat.pow_le_pow_right (by omega) (by omega))
  rw [Gj, Nm, if_pos (by rw [Af]; simp; omega), Bsb s c hc8, Aa, Ag (by omega) (by omega)]
  have e : Bq (UInt8.ofNat c) (2 : UInt8) = UInt8.ofNat (c / 2) := by
   apply UInt8.toNat_inj.1
   rw [Bso, UInt8.toNat_div, UInt8.toNat_ofNat', UInt8.toNat_ofNat']
   show c % 256 / 2 = _
   omega
  rw [e]
  have h := Ave j (i + 1) q (UInt32.ofNat (s.toNat / 2 ^^^ (if (s.toNat ^^^ c) % 2 = 1 then 3988292384 else 0))) (c / 2) (by omega) (by omega) (by rw [Nat.pow_succ] at hc; omega)
  rw [show ((i : Int) + 1) = ((i + 1 : Nat) : Int) by omega, h, UInt32.toNat_ofNat', Xy]
  congr 3
  have := s.toNat_lt
  rw [Nat.mod_eq_of_lt, Aou, Bed, Nat.xor_assoc, Nat.xor_assoc, Nat.xor_comm (c / 2)]
  exact Nat.xor_lt_two_pow (n := 32) (by omega) (by split <;> decide)
theorem Bqe (s : UInt32) (c : UInt8) : Acq s c = some (UInt32.ofNat (Aup s.toNat c.toNat)) := by
 have h := Ave 8 0 Ay s c.toNat (by omega) (by have := As; omega) (by simpa using c.toNat_lt)
 rw [UInt8.ofNat_toNat] at h
 exact h
theorem Aqz (b : List UInt8) (hb : b.length < 4611686018427387904) : ∀ (j i q : Nat) (s : UInt32), i + j = b.length → j < q → Eo b q s (i : Int) = some (UInt32.ofNat (Bli s.toNat (b.drop i)))
 | 0, i, q + 1, s, hi, _ => by
  rw [Eo, Kl, if_neg (by rw [Af, Ac]; simp; omega), show i = b.length by omega, List.drop_length]
  simp [So, Abx, Bli]
 | j + 1, i, q + 1, s, hi, hq => by
  have hlt : i < b.length := by omega
  rw [Eo, Kl, if_pos (by rw [Af, Ac]; simp; omega), Cl hlt, Aa, Bqe, Aa, Ag (by omega) (by omega)]
  have h := Aqz b hb j (i + 1) q (UInt32.ofNat (Aup s.toNat b[i].toNat)) (by omega) (by omega)
  rw [show ((i : Int) + 1) = ((i + 1 : Nat) : Int) by omega, h, drop_cons hlt, UInt32.toNat_ofNat', Nat.mod_eq_of_lt (Axp s.toNat_lt b[i].toNat_lt)]
  rfl
theorem Bpr (b : List UInt8) (hb : b.length < 4611686018427387904) : Mu b = some (Gw b) := by
 have h := Aqz b hb b.length 0 Ay 4294967295 (by omega) (by have := As; omega)
 rw [Mu, Yg, Sd, Tc, show ((0 : Int)) = ((0 : Nat) : Int) from rfl, h, Aa, Bfy]; rfl
theorem Bqy (c : UInt32) : Zi (Cd c (GI.toZ (1 : UInt64)).toNat) (Bb (3988292384 : UInt32) (Ik c (1 : UInt32))) = UInt32.ofNat (Aou c.toNat) := by
 apply UInt32.toNat_inj.1
 have e : (GI.toZ (1 : UInt64)).toNat = 1 := rfl
 have h1 : (Cd c 1).toNat = c.toNat / 2 := by rw [Ak0]
 have h2 : (Bb (3988292384 : UInt32) (Ik c (1 : UInt32))).toNat = if c.toNat % 2 = 1 then 3988292384 else 0 := by
  rw [Bm0, Bf2, UInt32.toNat_mul, UInt32.toNat_and]
  show 3988292384 * (c.toNat &&& 1) % 4294967296 = _
  rw [Nat.and_one_is_mod]
  have : c.toNat % 2 = 0 ∨ c.toNat % 2 = 1 := by omega
  rcases this with h | h <;> simp [h]
 rw [e, As2, UInt32.toNat_xor, h1, h2, UInt32.toNat_ofNat', Nat.mod_eq_of_lt (Awk c.toNat_lt)]; rfl
theorem Bd6 (bk16 : Int → List UInt32 → Option (UInt32 × Int)) (s : UInt32) (b : List UInt8) (x : Int) (t : List UInt32) : ∀ (j i q : Nat) (c : UInt32), i + j = 8 → j < q →
  Qr bk16 s b x t q c (i : Int) = Abk bk16 s b x (UInt32.ofNat (Xy j c.toNat)) t
 | 0, i, q + 1, c, hi, _ => by
  obtain rfl : i = 8 := by omega
  rw [Qr, Abh, if_neg (by rw [Af]; simp), Xy, UInt32.ofNat_toNat]
 | j + 1, i, q + 1, c, hi, hq => by
  rw [Qr, Abh, if_pos (by rw [Af]; simp; omega), Bqy, Ag (by omega) (by omega), show ((i : Int) + 1) = ((i + 1 : Nat) : Int) by omega, Bd6 bk16 s b x t j (i + 1) q _ (by omega) (by omega), UInt32.toNat_ofNat', Nat.mod_eq_of_lt (Awk c.toNat_lt)]; rfl
def tbl (n : Nat) : List UInt32 := (List.range n).map fun i => UInt32.ofNat (Xy 8 i)
theorem Bj0 (s : UInt32) (b : List UInt8) : ∀ (j i q : Nat), i + j = 256 → j < q → Lg s b q (i : Int) (tbl i ++ List.replicate j 0) = Ac1 s b (tbl 256)
 | 0, i, q + 1, hi, _ => by
  obtain rfl : i = 256 := by omega
  rw [Lg, Acw, if_neg (by rw [Af]; simp)]; simp
 | j + 1, i, q + 1, hi, hq => by
  have hlen : (tbl i ++ List.replicate (j + 1) 0).length = i + (j + 1) := by simp [tbl]
  rw [Lg, Acw, if_pos (by rw [Af]; simp; omega), Air]
  have h := Bd6 (Lg s b q) s b (i : Int) (tbl i ++ List.replicate (j + 1) 0) 8 0 Ay (Ad (i : Int)) (by omega) (by have := As; omega)
  rw [show ((0 : Int)) = ((0 : Nat) : Int) from rfl, h, Abk, Ahr, Cl (by rw [hlen]; omega), Aa, Yh _ (by rw [hlen]; omega), Aa, Ahp, Aod, Ag (by omega) (by omega)]
  have e : (Ad (i : Int) : UInt32).toNat = i := by rw [Az3, UInt32.toNat_ofNat', Nat.mod_eq_of_lt (by omega)]
  rw [e, List.replicate_succ, Apx (by simp [tbl])]
  have h2 := Bj0 s b j (i + 1) q (by omega) (by omega)
  have h3 : tbl (i + 1) = tbl i ++ [UInt32.ofNat (Xy 8 i)] := by simp [tbl, List.range_succ]
  rw [h3] at h2
  rw [show ((i : Int) + 1) = ((i + 1 : Nat) : Int) by omega, ← h2]
  simp
theorem Bqi {i : Nat} (h : i < 256) : Aj (tbl 256) (i : Int) = some (UInt32.ofNat (Xy 8 i)) := by
 rw [Cl (by simpa [tbl] using h)]; simp [tbl]
theorem Bob (s : UInt32) (c : UInt8) : Aj (tbl 256) (GI.toZ (Zi (Ad s : UInt8) c)) = some (UInt32.ofNat (Xy 8 ((s.toNat % 256) ^^^ c.toNat))) := by
 have e : GI.toZ (Zi (Ad s : UInt8) c) = (((s.toNat % 256) ^^^ c.toNat : Nat) : Int) := by
  rw [Aaa, Bjw, UInt8.toNat_xor, Are, UInt8.toNat_ofNat']
 rw [e, Bqi]
 exact Nat.xor_lt_two_pow (n := 8) (by simp; omega) (by simpa using c.toNat_lt)
theorem Blg (s : UInt32) (c : UInt8) : Zi (Cd s (GI.toZ (8 : UInt64)).toNat) (UInt32.ofNat (Xy 8 ((s.toNat % 256) ^^^ c.toNat))) = UInt32.ofNat (Aup s.toNat c.toNat) := by
 apply UInt32.toNat_inj.1
 have hlt : Xy 8 ((s.toNat % 256) ^^^ c.toNat) < 4294967296 := Awa 8 (Nat.xor_lt_two_pow (n := 32) (by simp; omega) (by have := c.toNat_lt; simp; omega))
 have e : (GI.toZ (8 : UInt64)).toNat = 8 := rfl
 rw [e, As2, UInt32.toNat_xor, Ak0, UInt32.toNat_ofNat', UInt32.toNat_ofNat', Nat.mod_eq_of_lt hlt, Nat.mod_eq_of_lt (Axp s.toNat_lt c.toNat_lt), Bd5 c.toNat_lt]
theorem Bd3 (b : List UInt8) (hb : b.length < 4611686018427387904) : ∀ (j i q : Nat) (s : UInt32), i + j = b.length → j < q → Qv b (tbl 256) q s (i : Int) = some (UInt32.ofNat (Bli s.toNat (b.drop i)), 0)
 | 0, i, q + 1, s, hi, _ => by
  rw [Qv, Abu, if_neg (by rw [Af, Ac]; simp; omega), show i = b.length by omega, List.drop_length]
  simp [Ah9, Ao1, Bli]
 | j + 1, i, q + 1, s, hi, hq => by
  have hlt : i < b.length := by omega
  rw [Qv, Abu, if_pos (by rw [Af, Ac]; simp; omega), Cl hlt, Aa, Bob, Aa, Aa, Blg, Ag (by omega) (by omega)]
  have h := Bd3 b hb j (i + 1) q (UInt32.ofNat (Aup s.toNat b[i].toNat)) (by omega) (by omega)
  rw [show ((i : Int) + 1) = ((i + 1 : Nat) : Int) by omega, h, drop_cons hlt, UInt32.toNat_ofNat', Nat.mod_eq_of_lt (Axp s.toNat_lt b[i].toNat_lt)]
  rfl
theorem Brx (s : UInt32) (b : List UInt8) (hb : b.length ≤ 100000) : Anf s b = some (UInt32.ofNat (Bli s.toNat b), 0) := by
 have h := Bj0 s b 256 0 Ay (by omega) (by have := As; omega)
 have h2 := Bd3 b (by omega) b.length 0 Ay s (by omega) (by have := As; omega)
 rw [Anf, Akb, if_neg (by rw [Ap, Ac]; simp; omega), Ah3]
 refine Eq.trans h ?_
 rw [Ac1, Aik, Ahx, Aiu, Aiy]
 exact h2
theorem Boc (a : UInt32) : Awx a = 4294967295 - a := by
 have h := a.toNat_lt
 have e : Awx a = UInt32.ofNat (BitVec.ofInt 32 4294967295 ^^^ BitVec.ofInt 32 (a.toNat : Int)).toNat := Di _
 apply UInt32.toNat_inj.1
 rw [e, UInt32.toNat_ofNat', UInt32.toNat_sub_of_le _ _ (by rw [UInt32.le_iff_toNat_le]; show a.toNat ≤ 4294967295; omega)]
 have h1 : BitVec.ofInt 32 (a.toNat : Int) = a.toBitVec := Bbq a
 have h2 : (BitVec.ofInt 32 4294967295 : BitVec 32) = BitVec.allOnes 32 := by decide
 rw [h1, h2, BitVec.allOnes_xor, BitVec.toNat_not]
 show (4294967296 - 1 - a.toNat) % 4294967296 = 4294967295 - a.toNat
 omega
theorem Bhy (b : List UInt8) (hb : b.length ≤ 100000) : Ahe b = some (Gw b, 0) := by
 rw [Ahe, Brx _ _ hb, Aa]
 simp only [Al, Boc]
 rfl
end Go.Pl
set_option linter.unusedVariables false
set_option linter.unusedSimpArgs false
namespace Go.Pl
open Go Go.Lv
theorem Biq : ∀ {l m : List UInt8}, l.length = m.length → Dw l = Dw m → l = m
 | [], [], _, _ => rfl
 | x :: l, y :: m, h, e => by
  simp only [Dw] at e
  have hx := x.toNat_lt
  have hy := y.toNat_lt
  have h1 : x = y := UInt8.toNat_inj.1 (by omega)
  rw [h1, Biq (l := l) (m := m) (by simpa using h) (by omega)]
theorem Bcc : ∀ (w n : Nat), Dw (leB n w) = n % 256 ^ w
 | 0, n => by simp [leB, Dw, Nat.mod_one]
 | w + 1, n => by
  rw [leB, Dw, Bcc w (n / 256), UInt8.toNat_ofNat', show (256 : Nat) ^ (w + 1) = 256 * 256 ^ w by rw [Nat.pow_succ, Nat.mul_comm], Nat.mod_mul]
def Va (b : List UInt8) : Int :=
 if b.length < 5 then 24 else if 41254 < b.length then 4 else if (Gw (b.take (b.length - 4))).toNat ≠ Dw (b.drop (b.length - 4)) then 22 else 0
theorem Bdd (b : List UInt8) : Ac7 b = some (if Va b ≠ 0 then ([], Va b) else (b.take (b.length - 4), 0)) := by
 rw [Ac7]
 by_cases h1 : b.length < 5
 ·have hS : Va b = 24 := by rw [Va, if_pos h1]
  rw [if_pos (by rw [Af, Ac]; simp; omega), hS]; rfl
 rw [if_neg (by rw [Af, Ac]; simp; omega)]
 by_cases h2 : 41254 < b.length
 ·have hS : Va b = 4 := by rw [Va, if_neg h1, if_pos h2]
  rw [if_pos (by rw [Ap, Ac]; simp; omega), hS]; rfl
 have e4 : Ao (Ac b) 4 = ((b.length - 4 : Nat) : Int) := by rw [Ac, Bw (by omega) (by omega)]; omega
 have hd : (b.drop (b.length - 4)).length = 4 := by simp; omega
 rw [if_neg (by rw [Ap, Ac]; simp; omega), e4, Fy (by omega) (by omega), Aa, show ((b.length - 4 : Nat) : Int).toNat = b.length - 4 from rfl, Bhy _ (by simp; omega), Aa]
 simp only
 rw [if_neg (by rw [Al]; simp), Jf (by omega) (by omega), Aa, show ((b.length - 4 : Nat) : Int).toNat = b.length - 4 from rfl, Ben _ (by omega) (by omega), Aa]
 have hne : Bm (leU (b.drop (b.length - 4))) (Ad (Gw (b.take (b.length - 4))) : UInt64) = decide ((Gw (b.take (b.length - 4))).toNat ≠ Dw (b.drop (b.length - 4))) := by
  have hlt := (Gw (b.take (b.length - 4))).toNat_lt
  rw [Ag9, Bool.eq_iff_iff]
  simp only [bne_iff_ne, ne_eq, ← UInt64.toNat_inj, decide_eq_true_eq]
  rw [Ajp (by omega), Ht, UInt64.toNat_ofNat', Nat.mod_eq_of_lt (by omega)]
  exact ⟨fun h e => h e.symm, fun h e => h e.symm⟩
 simp only
 rw [hne, Aa]
 by_cases h3 : (Gw (b.take (b.length - 4))).toNat ≠ Dw (b.drop (b.length - 4))
 ·have hS : Va b = 22 := by rw [Va, if_neg h1, if_neg h2, if_pos h3]
  rw [if_pos (by simp [h3]), hS]; rfl
 ·have hS : Va b = 0 := by rw [Va, if_neg h1, if_neg h2, if_neg h3]
  rw [if_neg (by rw [decide_eq_false h3]; decide), hS]; rfl
theorem Ble (b : List UInt8) (hb : b.length ≤ 1000000) : Pn b = some (b ++ leB (Gw b).toNat 4) := by
 have h : ∀ k : Nat, (Ad (Cd (Gw b) k) : UInt8) = UInt8.ofNat ((Gw b).toNat / 2 ^ k) := by
  intro k; rw [Are, Ak0]
 have h0 : (Ad (Gw b) : UInt8) = UInt8.ofNat (Gw b).toNat := Are _
 have h1 := h 8
 have h2 := h 16
 have h3 := h 24
 rw [Pn, Bpr b (by omega), Aa, Eu (by simp; omega), Aa, Eu (by simp; omega), Aa, h0, show (GI.toZ (8 : UInt64)).toNat = 8 from rfl, show (GI.toZ (16 : UInt64)).toNat = 16 from rfl, show (GI.toZ (24 : UInt64)).toNat = 24 from rfl, h1, h2, h3]
 simp only [leB, Nat.div_div_eq_div_mul, List.nil_append]
theorem Awm (b : List UInt8) : Kb b = some (Va b) := by
 rw [Kb]
 by_cases h1 : b.length < 5
 ·rw [if_pos (by rw [Af, Ac]; simp; omega), Va, if_pos h1]
 rw [if_neg (by rw [Af, Ac]; simp; omega)]
 by_cases h2 : 41254 < b.length
 ·rw [if_pos (by rw [Ap, Ac]; simp; omega), Va, if_neg h1, if_pos h2]
 have e4 : Ao (Ac b) 4 = ((b.length - 4 : Nat) : Int) := by rw [Ac, Bw (by omega) (by omega)]; omega
 have hd : (b.drop (b.length - 4)).length = 4 := by simp; omega
 rw [if_neg (by rw [Ap, Ac]; simp; omega), e4, Fy (by omega) (by omega), Aa, show ((b.length - 4 : Nat) : Int).toNat = b.length - 4 from rfl, Ble _ (by simp; omega), Aa]
 have hlt := (Gw (b.take (b.length - 4))).toNat_lt
 have hiff : (b.take (b.length - 4) ++ leB (Gw (b.take (b.length - 4))).toNat 4 != b) = decide ((Gw (b.take (b.length - 4))).toNat ≠ Dw (b.drop (b.length - 4))) := by
  rw [Bool.eq_iff_iff]
  simp only [bne_iff_ne, ne_eq, decide_eq_true_eq]
  constructor
  ·intro h e
   apply h
   have : leB (Gw (b.take (b.length - 4))).toNat 4 = b.drop (b.length - 4) := Biq (by rw [Pg, hd]) (by rw [Bcc, Nat.mod_eq_of_lt (by omega), e])
   rw [this, List.take_append_drop]
  ·intro h e
   apply h
   have hx : leB (Gw (b.take (b.length - 4))).toNat 4 = b.drop (b.length - 4) := by
    have e2 : b.take (b.length - 4) ++ leB (Gw (b.take (b.length - 4))).toNat 4 = b.take (b.length - 4) ++ b.drop (b.length - 4) := by rw [e, List.take_append_drop]
    exact List.append_cancel_left e2
   rw [← hx, Bcc, Nat.mod_eq_of_lt (by omega)]
 rw [hiff]
 by_cases h3 : (Gw (b.take (b.length - 4))).toNat ≠ Dw (b.drop (b.length - 4))
 ·rw [if_pos (by simp [h3]), Va, if_neg h1, if_neg h2, if_pos h3]
 ·rw [if_neg (by rw [decide_eq_false h3]; decide), Va, if_neg h1, if_neg h2, if_neg h3]
theorem Beb {b : List UInt8} (h : Va b = 0) : 5 ≤ b.length ∧ b.length ≤ 41254 := by
 unfold Va at h
 split at h
 ·simp at h
 ·split at h
  ·simp at h
  ·omega
theorem Bi3 {c : Nat} (h1 : 1 ≤ c) (h6 : c ≤ 6) : Bq (4000 : Int) (c : Int) = ((4000 / c : Nat) : Int) := by
 have : c = 1 ∨ c = 2 ∨ c = 3 ∨ c = 4 ∨ c = 5 ∨ c = 6 := by omega
 rcases this with rfl | rfl | rfl | rfl | rfl | rfl <;> rfl
theorem Bsi (p : List UInt8) (h : p.length ≤ 41250) : okB p (8 * p.length) := ⟨by omega, by omega, fun k h1 h2 => by omega⟩
theorem Bfd {bits : Int} {ch n : Nat} {t : List Int32} (b : List UInt8) (hb : Ce bits) (ht : t.length = 16) (h1 : 1 ≤ ch) (h6 : ch ≤ 6) (n1 : 1 ≤ n) (n2 : n ≤ 4000 / ch) :
  ∃ l e, Ace (ch : Int) bits t (n : Int) b = some (l, e) ∧ Hh (ch : Int) bits t (n : Int) b = some (l, e) ∧ (e = 0 → Au bits l = some 0 ∧ l.length ≤ 4000 ∧ l.length = n * ch) ∧ (e ≠ 0 → l = []) := by
 have hn : n * ch ≤ 4000 := by
  have := Nat.mul_le_mul_right ch n2
  have h2 := Nat.div_mul_le_self 4000 ch
  omega
 have hq4 := Bi3 h1 h6
 generalize 4000 / ch = mm at *
 have hck : On (ch : Int) bits = some 0 := by
  have hr : ∃ x y, Wy bits = some (x, y, 0) := ⟨_, _, Bhq hb⟩
  obtain ⟨x, y, hr⟩ := hr
  rw [On, hr, Aa]
  simp only
  rw [if_neg (by simp [Al, Af, Ap]; omega)]
 have hh := Aq2 bits
 have hasked : Im (ch : Int) bits (n : Int) = some 0 := by
  rw [Im, Gc, if_neg (by simp [Af, Ap]; omega), Aum hb, Aa, if_neg (by rw [Az]; simp; omega), Aa, if_neg (by simp [Al, Af]; omega), Ca (by rw [Al]; simp; omega), Aa, hq4, if_neg (by rw [Ap]; simp; omega)]
 rw [Ace, Hh, Kh, hck, hasked, Aa, Aa, if_neg (by rw [Al]; simp), if_neg (by rw [Af]; simp; omega), Ca (by rw [Al]; simp; omega), Aa, hq4, if_neg (by rw [Ap]; simp; omega), if_neg (by rw [Al]; simp), Bdd, Awm]
 by_cases hs : Va b ≠ 0
 ·rw [if_pos hs]
  simp only [Aa]
  rw [if_pos (by rw [Al]; simpa using hs), if_pos (by rw [Al]; simpa using hs)]
  exact ⟨[], Va b, rfl, rfl, fun e => absurd e hs, fun _ => rfl⟩
 have hs0 : Va b = 0 := by simpa using hs
 have hlen := Beb hs0
 have e4 : Ao (Ac b) 4 = ((b.length - 4 : Nat) : Int) := by rw [Ac, Bw (by omega) (by omega)]; omega
 rw [if_neg hs, hs0]
 simp only [Aa]
 rw [if_neg (by rw [Al]; simp), if_neg (by rw [Al]; simp), e4, Fy (by omega) (by omega), Aa, show ((b.length - 4 : Nat) : Int).toNat = b.length - 4 from rfl]
 have hpl : (b.take (b.length - 4)).length = b.length - 4 := by simp
 generalize b.take (b.length - 4) = p at *
 have e8 : Bb (8 : Int) (Ac p) = ((8 * p.length : Nat) : Int) := by rw [Ac, Gt (by omega) (by omega)]; omega
 have hp := Bsi p (by omega)
 have hv := values_eq hp h1 h6 hn
 have hr := Bjm (N := 8 * p.length) (p := p) rfl (by omega) h1 h6 hn
 have hat := Av1 (ch := ch) (p := p) (N := 8 * p.length) (n * ch) 0 [] (by omega)
 rw [Bbt, if_neg (by rw [Ap, Ac]; simp; omega), He, Eu (by simp; omega), Aa, Aa, Aa, List.nil_append, e8]
 simp only
 rw [if_neg (by rw [Al]; simp), hv, hr, Aa, Aa]
 generalize Xp ch p (8 * p.length) (n * ch) 0 [] = V at *
 obtain ⟨v, at', e⟩ := V
 simp only at *
 by_cases he : e ≠ 0
 ·rw [if_pos he, if_pos he]
  simp only
  rw [if_pos (by rw [Al]; simpa using he), El, De, if_pos (by rw [Al]; simpa using he)]
  exact ⟨[], e, rfl, rfl, fun h => absurd h he, fun _ => rfl⟩
 have he0 : e = 0 := by simpa using he
 have hvl := hat.2.2 he0
 simp only [List.length_nil, Nat.zero_add] at hvl
 rw [if_neg he, if_neg he]
 simp only
 rw [if_neg (by rw [Al]; simp), Bw (by omega) (by omega), show ((8 * p.length : Nat) : Int) - (at' : Int) = ((8 * p.length - at' : Nat) : Int) by omega, El, De]
 by_cases h7 : 7 < 8 * p.length - at'
 ·have hE : (if 7 < 8 * p.length - at' ∨ Bt p at' (8 * p.length - at') ≠ 0 then (12 : Int) else 0) = 12 := if_pos (.inl h7)
  rw [if_pos (by rw [Ci]; simp; omega), hE, if_pos (by decide)]
  exact ⟨[], 12, rfl, rfl, fun h => absurd h (by decide), fun _ => rfl⟩
 rw [if_neg (by rw [Ci]; simp; omega), Aud hp at' _ (by omega), if_neg (by omega), Aa]
 have hz : Bm (Wz p at' (8 * p.length - at')) (0 : UInt64) = decide (Bt p at' (8 * p.length - at') ≠ 0) := by
  rw [Ag9, Bool.eq_iff_iff]
  simp only [bne_iff_ne, ne_eq, ← UInt64.toNat_inj, decide_eq_true_eq]
  rw [Ack p _ _ (by omega)]; rfl
 simp only
 rw [hz]
 by_cases hv0 : Bt p at' (8 * p.length - at') ≠ 0
 ·have hE : (if 7 < 8 * p.length - at' ∨ Bt p at' (8 * p.length - at') ≠ 0 then (12 : Int) else 0) = 12 := if_pos (.inr hv0)
  rw [if_pos (by simp [hv0]), hE, if_pos (by decide)]
  exact ⟨[], 12, rfl, rfl, fun h => absurd h (by decide), fun _ => rfl⟩
 have hm : v.length % ch = 0 := by rw [hvl]; exact Nat.mul_mod_left n ch
 obtain ⟨l, e, g1, g2, g3, g4, g5⟩ := Asf (v := v) hb ht h1 h6 (by omega) hm
 have hE : (if 7 < 8 * p.length - at' ∨ Bt p at' (8 * p.length - at') ≠ 0 then (12 : Int) else 0) = 0 := if_neg (by omega)
 rw [if_neg (by rw [decide_eq_false hv0]; decide), hE, if_neg (by decide), g1, g3, Aa, Aa, g2]
 by_cases hl : e ≠ 0
 ·rw [if_pos hl]
  exact ⟨[], e, rfl, rfl, fun h => absurd h hl, fun _ => rfl⟩
 ·rw [if_neg hl]
  have hl0 : e = 0 := by simpa using hl
  exact ⟨l, 0, rfl, rfl, fun _ => ⟨by rw [g4, hl0], by omega, by omega⟩, fun e => absurd rfl e⟩
end Go.Pl
set_option linter.unusedVariables false
set_option linter.unusedSimpArgs false
namespace Go.Pl
open Go Go.Lv
def P64 : Nat := 4823603603198064275
def Af0 (s : Nat) : Nat := (2 * s % 18446744073709551616) ^^^ (s / 9223372036854775808 * P64)
theorem Alk {s : Nat} (h : s < 18446744073709551616) : Af0 s < 18446744073709551616 := by
 have h1 : s / 9223372036854775808 = 0 ∨ s / 9223372036854775808 = 1 := by omega
 exact Nat.xor_lt_two_pow (n := 64) (Nat.mod_lt _ (by decide)) (by rcases h1 with e | e <;> rw [e] <;> decide)
theorem Bi1 (x y : Nat) : (x ^^^ y) / 9223372036854775808 = (x / 9223372036854775808) ^^^ (y / 9223372036854775808) := by
 have := Nat.shiftRight_xor_distrib (a := x) (b := y) (i := 63)
 simpa [Nat.shiftRight_eq_div_pow] using this
theorem Bjf (x y : Nat) : 2 * (x ^^^ y) % 18446744073709551616 = (2 * x % 18446744073709551616) ^^^ (2 * y % 18446744073709551616) := by
 have h1 := Nat.shiftLeft_xor_distrib (a := x) (b := y) (i := 1)
 have h2 := Nat.xor_mod_two_pow (a := 2 * x) (b := 2 * y) (n := 64)
 have e : 2 * (x ^^^ y) = (2 * x) ^^^ (2 * y) := by simpa [Nat.shiftLeft_eq, Nat.mul_comm] using h1
 rw [e]; exact h2
theorem Bqv {a b : Nat} (ha : a = 0 ∨ a = 1) (hb : b = 0 ∨ b = 1) (p : Nat) : (a ^^^ b) * p = (a * p) ^^^ (b * p) := by
 rcases ha with rfl | rfl <;> rcases hb with rfl | rfl <;> simp
theorem Bwi (a b c d : Nat) : (a ^^^ b) ^^^ (c ^^^ d) = (a ^^^ c) ^^^ (b ^^^ d) := by
 rw [Nat.xor_assoc, Nat.xor_assoc, ← Nat.xor_assoc b c d, Nat.xor_comm b c, Nat.xor_assoc c b d]
theorem Bgy {x y : Nat} (hx : x < 18446744073709551616) (hy : y < 18446744073709551616) : Af0 (x ^^^ y) = Af0 x ^^^ Af0 y := by
 rw [Af0, Af0, Af0, Bjf, Bi1, Bqv (by omega) (by omega), Bwi]
def Mq : Nat → Nat → Nat
 | 0, s => s
 | k + 1, s => Mq k (Af0 s)
theorem Atp : ∀ (k : Nat) {s : Nat}, s < 18446744073709551616 → Mq k s < 18446744073709551616
 | 0, _, h => h
 | k + 1, _, h => Atp k (Alk h)
theorem Awo : ∀ (k : Nat) {x y : Nat}, x < 18446744073709551616 → y < 18446744073709551616 → Mq k (x ^^^ y) = Mq k x ^^^ Mq k y
 | 0, _, _, _, _ => rfl
 | k + 1, x, y, hx, hy => by rw [Mq, Bgy hx hy, Awo k (Alk hx) (Alk hy)]; rfl
theorem Ax1 : ∀ (k h : Nat), 2 ^ k * h < 18446744073709551616 → Mq k h = 2 ^ k * h
 | 0, h, _ => by simp [Mq]
 | k + 1, h, hl => by
  have hpos : 0 < 2 ^ k := Nat.pow_pos (by omega)
  rw [Nat.pow_succ, Nat.mul_assoc] at hl
  have h2 : 2 * h < 18446744073709551616 := Nat.lt_of_le_of_lt (Nat.le_mul_of_pos_left _ hpos) hl
  have : Af0 h = 2 * h := by rw [Af0, Nat.mod_eq_of_lt h2, show h / 9223372036854775808 = 0 by omega]; simp
  rw [Mq, this, Ax1 k _ hl, Nat.pow_succ, Nat.mul_assoc]
def Ao7 (s c : Nat) : Nat := Mq 8 (s ^^^ (c * 72057594037927936))
theorem c56 {c : Nat} (hc : c < 256) : c * 72057594037927936 < 18446744073709551616 := by omega
theorem Atl {s c : Nat} (h : s < 18446744073709551616) (hc : c < 256) : Ao7 s c < 18446744073709551616 := Atp 8 (Nat.xor_lt_two_pow (n := 64) h (c56 hc))
theorem Bqs (s : Nat) : s = (s / 72057594037927936 * 72057594037927936) ^^^ (s % 72057594037927936) := by
 have h1 : s % 72057594037927936 < 2 ^ 56 := Nat.mod_lt _ (by decide)
 have := Nat.two_pow_add_eq_or_of_lt h1 (s / 72057594037927936)
 have h2 : 2 ^ 56 * (s / 72057594037927936) ||| s % 72057594037927936 = (2 ^ 56 * (s / 72057594037927936)) ^^^ (s % 72057594037927936) := by
  apply Nat.eq_of_testBit_eq; intro i
  rw [Nat.testBit_or, Nat.testBit_xor]
  by_cases hi : i < 56
  ·have : (2 ^ 56 * (s / 72057594037927936)).testBit i = false := by rw [Nat.testBit_two_pow_mul]; simp; omega
   rw [this]; simp
  ·have : (s % 72057594037927936).testBit i = false := Nat.testBit_lt_two_pow (Nat.lt_of_lt_of_le h1 (Nat.pow_le_pow_right (by omega) (by omega)))
   rw [this]; simp
 rw [Nat.mul_comm (s / 72057594037927936)]
 show s = (2 ^ 56 * (s / 72057594037927936)) ^^^ _
 rw [← h2, ← this]
 have := Nat.div_add_mod s 72057594037927936
 show s = 72057594037927936 * _ + _
 omega
theorem Bj9 (a c : Nat) : (a ^^^ c) * 72057594037927936 = (a * 72057594037927936) ^^^ (c * 72057594037927936) := by
 have h1 := Nat.shiftLeft_xor_distrib (a := a) (b := c) (i := 56)
 simpa [Nat.shiftLeft_eq] using h1
theorem Bb5 {s c : Nat} (h : s < 18446744073709551616) (hc : c < 256) : Ao7 s c = (256 * s % 18446744073709551616) ^^^ Mq 8 (((s / 72057594037927936) ^^^ c) * 72057594037927936) := by
 have hs : s / 72057594037927936 < 2 ^ 8 := by show _ < 256; omega
 have hx : (s / 72057594037927936) ^^^ c < 256 := Nat.xor_lt_two_pow (n := 8) hs (by simpa using hc)
 have hl : s % 72057594037927936 < 72057594037927936 := Nat.mod_lt _ (by decide)
 rw [Ao7]
 conv => lhs; rw [Bqs s]
 rw [Nat.xor_comm (s / 72057594037927936 * 72057594037927936), Nat.xor_assoc, ← Bj9, Awo 8 (by omega) (c56 hx), Ax1 8 _ (by show 256 * _ < _; omega)]
 congr 1
 show 256 * (s % 72057594037927936) = _
 omega
def Azb (s : Nat) (l : List UInt8) : Nat := l.foldl (fun s c => Ao7 s c.toNat) s
theorem Azm {n : Nat} (h : n < 18446744073709551616) : (UInt64.ofNat n).toNat = n := by rw [UInt64.toNat_ofNat']; exact Nat.mod_eq_of_lt h
theorem Bt2 (s : UInt64) (bit : Nat) (hb : bit = 0 ∨ bit = 1) : Vi s (bit : Int) = some (UInt64.ofNat ((2 * s.toNat % 18446744073709551616) ^^^ (((s.toNat / 9223372036854775808) ^^^ bit) * P64))) := by
 have hs := s.toNat_lt
 have ht : s.toNat / 9223372036854775808 = 0 ∨ s.toNat / 9223372036854775808 = 1 := by omega
 have e1 : (Bb s (2 : UInt64)).toNat = 2 * s.toNat % 18446744073709551616 := by
  rw [Aff, UInt64.toNat_mul]; show s.toNat * 2 % _ = _; rw [Nat.mul_comm]
 have hlt : 2 * s.toNat % 18446744073709551616 < 18446744073709551616 := Nat.mod_lt _ (by decide)
 have ey : Zi (Bb s (2 : UInt64)) (4823603603198064275 : UInt64) = UInt64.ofNat ((2 * s.toNat % 18446744073709551616) ^^^ P64) := by
  apply UInt64.toNat_inj.1
  rw [Ay0, UInt64.toNat_xor, e1, Azm (Nat.xor_lt_two_pow (n := 64) hlt (by decide))]; rfl
 have en : Bb s (2 : UInt64) = UInt64.ofNat (2 * s.toNat % 18446744073709551616) := by
  apply UInt64.toNat_inj.1
  rw [e1, Azm hlt]
 have eg : Nc s (9223372036854775808 : UInt64) = decide (s.toNat / 9223372036854775808 = 1) := by
  rw [Br1, decide_eq_decide]
  show 9223372036854775808 ≤ s.toNat ↔ _
  omega
 have hp : ∀ b : Bool, Nv s b = some (if b = true then UInt64.ofNat ((2 * s.toNat % 18446744073709551616) ^^^ P64) else UInt64.ofNat (2 * s.toNat % 18446744073709551616)) := by
  intro b
  rw [Nv, Afb, ey, en]; cases b <;> rfl
 rw [Vi, Vx, hp, hp, eg]
 rcases hb with rfl | rfl <;> rcases ht with h | h <;> rw [h] <;> simp [Az]
theorem Au4 (c : UInt8) : ∀ (j q : Nat) (s : UInt64), j ≤ 8 → j < q → Gi c q s ((2 ^ j / 2 : Nat) : Int) = some (UInt64.ofNat (Mq j (s.toNat ^^^ (c.toNat % 2 ^ j * 2 ^ (64 - j)))))
 | 0, q + 1, s, _, _ => by
  rw [Gi, Ng, if_neg (by rw [Ap]; simp), Wp, Ae4]
  simp [Mq, Nat.mod_one]
 | j + 1, q + 1, s, hj, hq => by
  have hc := c.toNat_lt
  have hs := s.toNat_lt
  have hj2 : 2 ^ j ≤ 2 ^ 7 := Nat.pow_le_pow_right (by omega) (by omega)
  have hpos : 0 < 2 ^ j := Nat.pow_pos (by omega)
  have e1 : 2 ^ (j + 1) / 2 = 2 ^ j := by rw [Nat.pow_succ]; omega
  have e2 : Bq ((2 ^ j : Nat) : Int) 2 = ((2 ^ j / 2 : Nat) : Int) := by
   generalize 2 ^ j = K at *
   rw [Af1, Int.tdiv_eq_ediv_of_nonneg (by omega), Bu (by omega) (by omega)]; omega
  have e3 : Il (Bq (Ad c : Int) ((2 ^ j : Nat) : Int)) (2 : Int) = ((c.toNat / 2 ^ j % 2 : Nat) : Int) := by
   have hX := Nat.div_le_self c.toNat (2 ^ j)
   rw [Ahm, Af1, ← Int.ofNat_tdiv]
   generalize c.toNat / 2 ^ j = X at *
   rw [Bu (by omega) (by omega), Il, Int.tmod_eq_emod_of_nonneg (by omega)]; omega
  have hbit : c.toNat / 2 ^ j % 2 = 0 ∨ c.toNat / 2 ^ j % 2 = 1 := by omega
  rw [Gi, Ng, e1, if_pos (by rw [Ap, decide_eq_true_eq]; omega), Ca (by rw [Al, bne_iff_ne]; omega), Aa, e3, Bt2 s _ hbit, Aa, e2, Au4 c j q _ (by omega) (by omega)]
  congr 2
  rw [Mq]
  congr 1
  have hx : c.toNat % 2 ^ (j + 1) * 2 ^ (64 - (j + 1)) = (c.toNat / 2 ^ j % 2) * 9223372036854775808 + c.toNat % 2 ^ j * 2 ^ (63 - j) := by
   have h63 : (9223372036854775808 : Nat) = 2 ^ j * 2 ^ (63 - j) := by rw [← Nat.pow_add, show j + (63 - j) = 63 by omega]
   rw [Nat.mod_pow_succ, h63, show 64 - (j + 1) = 63 - j by omega, Nat.add_mul, Nat.add_comm, Nat.mul_assoc, Nat.mul_left_comm]
  have hr : c.toNat % 2 ^ j < 2 ^ j := Nat.mod_lt _ hpos
  have hb63 : c.toNat % 2 ^ j * 2 ^ (63 - j) < 9223372036854775808 := by
   have h63 : (9223372036854775808 : Nat) = 2 ^ j * 2 ^ (63 - j) := by rw [← Nat.pow_add, show j + (63 - j) = 63 by omega]
   rw [h63]; exact Nat.mul_lt_mul_of_pos_right hr (Nat.pow_pos (by omega))
  have h64 : c.toNat % 2 ^ j * 2 ^ (64 - j) = 2 * (c.toNat % 2 ^ j * 2 ^ (63 - j)) := by
   rw [show 64 - j = (63 - j) + 1 by omega, Nat.pow_succ, ← Nat.mul_assoc, Nat.mul_comm]
  rw [hx, h64]
  generalize c.toNat % 2 ^ j * 2 ^ (63 - j) = R at *
  generalize c.toNat / 2 ^ j % 2 = b at *
  have ht : s.toNat / 9223372036854775808 = 0 ∨ s.toNat / 9223372036854775808 = 1 := by omega
  have hp : ((s.toNat / 9223372036854775808 ^^^ b) * P64) < 18446744073709551616 := by
   rcases ht with h | h <;> rcases hbit with h2 | h2 <;> rw [h, h2] <;> decide
  rw [Azm (Nat.xor_lt_two_pow (n := 64) (Nat.mod_lt _ (by decide)) hp), Af0, Bjf, Bi1, show (b * 9223372036854775808 + R) / 9223372036854775808 = b by omega, show 2 * (b * 9223372036854775808 + R) % 18446744073709551616 = 2 * R by omega, Nat.xor_assoc, Nat.xor_assoc, Nat.xor_comm (2 * R)]
theorem Buh (c : UInt8) (s : UInt64) : Acb s c = some (UInt64.ofNat (Ao7 s.toNat c.toNat)) := by
 have h := Au4 c 8 Ay s (Nat.le_refl _) (by have := As; omega)
 have hc := c.toNat_lt
 rw [Nat.mod_eq_of_lt (show c.toNat < 2 ^ 8 by simpa using hc)] at h
 exact h
theorem Aqn (b : List UInt8) (hb : b.length < 4611686018427387904) : ∀ (j i q : Nat) (s : UInt64), i + j = b.length → j < q → Ep b q s (i : Int) = some (UInt64.ofNat (Azb s.toNat (b.drop i)))
 | 0, i, q + 1, s, hi, _ => by
  rw [Ep, Kr, if_neg (by rw [Af, Ac]; simp; omega), show i = b.length by omega, List.drop_length]
  simp [Rg, Abi, Azb]
 | j + 1, i, q + 1, s, hi, hq => by
  have hlt : i < b.length := by omega
  have hc := b[i].toNat_lt
  rw [Ep, Kr, if_pos (by rw [Af, Ac]; simp; omega), Cl hlt, Aa, Buh, Aa, Ag (by omega) (by omega)]
  have h := Aqn b hb j (i + 1) q (UInt64.ofNat (Ao7 s.toNat b[i].toNat)) (by omega) (by omega)
  rw [show ((i : Int) + 1) = ((i + 1 : Nat) : Int) by omega, h, drop_cons hlt, Azm (Atl s.toNat_lt (by simpa using hc))]
  rfl
def Afr (b : List UInt8) : UInt64 := UInt64.ofNat (Azb 0 b)
theorem Be9 (b : List UInt8) (hb : b.length ≤ 100000) : Pu 0 b = some (Afr b) :=
 Aqn b (by omega) b.length 0 Ay 0 (by omega) (by have := As; omega)
theorem Bh3 (c : UInt64) : Zi (Fc c (GI.toZ (1 : UInt64)).toNat) (Bb (4823603603198064275 : UInt64) (Cd c (GI.toZ (63 : UInt64)).toNat)) = UInt64.ofNat (Af0 c.toNat) := by
 have hc := c.toNat_lt
 apply UInt64.toNat_inj.1
 have h1 : (Fc c (GI.toZ (1 : UInt64)).toNat).toNat = 2 * c.toNat % 18446744073709551616 := by
  rw [show (GI.toZ (1 : UInt64)).toNat = 1 from rfl, Ak5, Nat.mul_comm]
 have h2 : (Bb (4823603603198064275 : UInt64) (Cd c (GI.toZ (63 : UInt64)).toNat)).toNat = c.toNat / 9223372036854775808 * P64 := by
  rw [show (GI.toZ (63 : UInt64)).toNat = 63 from rfl, Aff, UInt64.toNat_mul, Afs]
  show 4823603603198064275 * (c.toNat / 9223372036854775808) % 18446744073709551616 = _
  have h1 : c.toNat / 9223372036854775808 = 0 ∨ c.toNat / 9223372036854775808 = 1 := by omega
  rcases h1 with e | e <;> rw [e] <;> decide
 rw [Ay0, UInt64.toNat_xor, h1, h2, Azm (Alk hc)]; rfl
theorem Auv (bk16 : Int → List UInt64 → Option (UInt64 × Int)) (s : UInt64) (b : List UInt8) (x : Int) (t : List UInt64) : ∀ (j i q : Nat) (c : UInt64), i + j = 8 → j < q →
  Qt bk16 s b x t q c (i : Int) = Ac6 bk16 s b x (UInt64.ofNat (Mq j c.toNat)) t
 | 0, i, q + 1, c, hi, _ => by
  obtain rfl : i = 8 := by omega
  rw [Qt, Ac0, if_neg (by rw [Af]; simp), Mq, UInt64.ofNat_toNat]
 | j + 1, i, q + 1, c, hi, hq => by
  rw [Qt, Ac0, if_pos (by rw [Af]; simp; omega), Bh3, Ag (by omega) (by omega), show ((i : Int) + 1) = ((i + 1 : Nat) : Int) by omega, Auv bk16 s b x t j (i + 1) q _ (by omega) (by omega), Azm (Alk c.toNat_lt)]; rfl
def Ajk (n : Nat) : List UInt64 := (List.range n).map fun i => UInt64.ofNat (Mq 8 (i * 72057594037927936))
theorem Ayo (s : UInt64) (b : List UInt8) : ∀ (j i q : Nat), i + j = 256 → j < q → Ll s b q (i : Int) (Ajk i ++ List.replicate j 0) = Abr s b (Ajk 256)
 | 0, i, q + 1, hi, _ => by
  obtain rfl : i = 256 := by omega
  rw [Ll, Abq, if_neg (by rw [Af]; simp)]; simp
 | j + 1, i, q + 1, hi, hq => by
  have hlen : (Ajk i ++ List.replicate (j + 1) 0).length = i + (j + 1) := by simp [Ajk]
  rw [Ll, Abq, if_pos (by rw [Af]; simp; omega), Ahn]
  have h := Auv (Ll s b q) s b (i : Int) (Ajk i ++ List.replicate (j + 1) 0) 8 0 Ay (Fc (Ad (i : Int) : UInt64) (GI.toZ (56 : UInt64)).toNat) (by omega) (by have := As; omega)
  rw [show ((0 : Int)) = ((0 : Nat) : Int) from rfl, h, Ac6, Aic, Cl (by rw [hlen]; omega), Aa, Yh _ (by rw [hlen]; omega), Aa, Aho, Aoj, Ag (by omega) (by omega)]
  have e : (Fc (Ad (i : Int) : UInt64) (GI.toZ (56 : UInt64)).toNat).toNat = i * 72057594037927936 := by
   rw [Ak5, Aa9, Azm (by omega)]
   show i * 72057594037927936 % 18446744073709551616 = _
   omega
  rw [e, List.replicate_succ, Apx (by simp [Ajk])]
  have h2 := Ayo s b j (i + 1) q (by omega) (by omega)
  have h3 : Ajk (i + 1) = Ajk i ++ [UInt64.ofNat (Mq 8 (i * 72057594037927936))] := by simp [Ajk, List.range_succ]
  rw [h3] at h2
  rw [show ((i : Int) + 1) = ((i + 1 : Nat) : Int) by omega, ← h2]
  simp
theorem Bk5 {i : Nat} (h : i < 256) : Aj (Ajk 256) (i : Int) = some (UInt64.ofNat (Mq 8 (i * 72057594037927936))) := by
 rw [Cl (by simpa [Ajk] using h)]; simp [Ajk]
theorem Bf3 (s : UInt64) (c : UInt8) : Aj (Ajk 256) (GI.toZ (Zi (Ad (Cd s (GI.toZ (56 : UInt64)).toNat) : UInt8) c)) = some (UInt64.ofNat (Mq 8 (((s.toNat / 72057594037927936) ^^^ c.toNat) * 72057594037927936))) := by
 have hs := s.toNat_lt
 have e : GI.toZ (Zi (Ad (Cd s (GI.toZ (56 : UInt64)).toNat) : UInt8) c) = (((s.toNat / 72057594037927936) ^^^ c.toNat : Nat) : Int) := by
  have e2 : ((Ad (Cd s (GI.toZ (56 : UInt64)).toNat) : UInt8)).toNat = s.toNat / 72057594037927936 := by
   rw [Am5, UInt8.toNat_ofNat', Afs]
   show s.toNat / 72057594037927936 % 256 = _
   omega
  rw [Aaa, Bjw, UInt8.toNat_xor, e2]
 rw [e, Bk5]
 exact Nat.xor_lt_two_pow (n := 8) (by show _ < 256; omega) (by simpa using c.toNat_lt)
theorem Bbl (s : UInt64) (c : UInt8) : Zi (Fc s (GI.toZ (8 : UInt64)).toNat) (UInt64.ofNat (Mq 8 (((s.toNat / 72057594037927936) ^^^ c.toNat) * 72057594037927936))) = UInt64.ofNat (Ao7 s.toNat c.toNat) := by
 have hs := s.toNat_lt
 have hc : c.toNat < 256 := by simpa using c.toNat_lt
 apply UInt64.toNat_inj.1
 have hlt : Mq 8 (((s.toNat / 72057594037927936) ^^^ c.toNat) * 72057594037927936) < 18446744073709551616 := Atp 8 (c56 (Nat.xor_lt_two_pow (n := 8) (by show _ < 256; omega) (by simpa using c.toNat_lt)))
 have e : (GI.toZ (8 : UInt64)).toNat = 8 := rfl
 rw [e, Ay0, UInt64.toNat_xor, Ak5, Azm hlt, Azm (Atl hs hc), Bb5 hs hc, Nat.mul_comm s.toNat]
theorem Avc (b : List UInt8) (s0 : UInt64) (hb : b.length < 4611686018427387904) : ∀ (j i q : Nat) (s : UInt64), i + j = b.length → j < q → Qg b s0 (Ajk 256) q s (i : Int) = some (UInt64.ofNat (Azb s.toNat (b.drop i)), 0)
 | 0, i, q + 1, s, hi, _ => by
  rw [Qg, Acv, if_neg (by rw [Af, Ac]; simp; omega), show i = b.length by omega, List.drop_length]
  simp [Ahv, Ah8, Aim, Aog, Azb]
 | j + 1, i, q + 1, s, hi, hq => by
  have hlt : i < b.length := by omega
  have hc := b[i].toNat_lt
  rw [Qg, Acv, if_pos (by rw [Af, Ac]; simp; omega), Cl hlt, Aa, Bf3, Aa, Aa, Bbl, Ag (by omega) (by omega)]
  have h := Avc b s0 hb j (i + 1) q (UInt64.ofNat (Ao7 s.toNat b[i].toNat)) (by omega) (by omega)
  rw [show ((i : Int) + 1) = ((i + 1 : Nat) : Int) by omega, h, drop_cons hlt, Azm (Atl s.toNat_lt (by simpa using hc))]
  rfl
theorem Bfb (b : List UInt8) (hb : b.length ≤ 100000) : Ak7 b = some (Afr b, 0) := by
 have h := Ayo 0 b 256 0 Ay (by omega) (by have := As; omega)
 have h2 := Avc b 0 (by omega) b.length 0 Ay 0 (by omega) (by have := As; omega)
 have hn : Al3 0 b = some (Afr b, 0) := by
  rw [Al3, Ako, if_neg (by rw [Ap, Ac]; simp; omega), Ahy]
  refine Eq.trans h ?_
  rw [Abr, Ain, Aia]
  exact h2
 rw [Ak7, hn, Aa]
theorem Bky (p : List UInt8) (hp : p.length ≤ 64) : Aha p = some (leB (Afr p).toNat 8, 0) := by
 rw [Aha, Aua, if_neg (by rw [Ap, Ac]; simp; omega), Bfb p (by omega), Aa, Aa]
 simp only
 have h := Bc7 (Afr p) 8 (by omega) (by omega) (by simpa using (Afr p).toNat_lt)
 rw [if_neg (by rw [Al]; simp)]
 exact congrArg (fun o => Option.bind o fun x : List UInt8 × Int => some (x.1, x.2)) h
theorem Bkf (p : List UInt8) (hp : p.length ≤ 64) : Nr p = some (leB (Afr p).toNat 8) := by
 have h := Ayj (Afr p) 8 (by omega)
 rw [Nr, Abw, Be9 p (by omega), Aa, Aa]
 exact congrArg (fun o => Option.bind o fun l => some l) h
def s8 (n : Nat) : Int32 := Int32.ofInt (if n < 128 then (n : Int) else (n : Int) - 256)
def Ajn (d : UInt64) (n : Nat) : List Int32 := (List.range n).map fun i => s8 (d.toNat / 256 ^ i % 256)
theorem Ali (d : UInt64) (n : Nat) : (Ajn d n).length = n := by simp [Ajn]
theorem Awd (d : UInt64) (n : Nat) : Ajn d (n + 1) = Ajn d n ++ [s8 (d.toNat / 256 ^ n % 256)] := by simp [Ajn, List.range_succ]
theorem bm8 (z : Nat) : (z : Int).bmod Int8.size = if z % 256 < 128 then ((z % 256 : Nat) : Int) else ((z % 256 : Nat) : Int) - 256 := by
 rw [show Int8.size = 256 from rfl, Int.bmod_def]
 split <;> split <;> omega
theorem Bje (d : UInt64) : ∀ (j i q : Nat), i + j = 8 → j < q → Aeh d q (i : Int) (Ajn d i ++ List.replicate (16 - i) 0) = some (Ajn d 8 ++ List.replicate 8 0)
 | 0, i, q + 1, hi, _ => by
  obtain rfl : i = 8 := by omega
  rw [Aeh, Amr, if_neg (by rw [Af]; simp)]; rfl
 | j + 1, i, q + 1, hi, hq => by
  have hlen : (Ajn d i ++ List.replicate (16 - i) 0).length = 16 := by simp [Ali]; omega
  have ih := Bje d j (i + 1) q (by omega) (by omega)
  have e8 : Bb (8 : Int) (i : Int) = ((8 * i : Nat) : Int) := by rw [Gt (by omega) (by omega)]; omega
  have ev : (Ad (Ad (Cd d (GI.toZ (((8 * i : Nat) : Int))).toNat) : Int8) : Int32) = s8 (d.toNat / 256 ^ i % 256) := by
   have e1 : (Cd d (GI.toZ (((8 * i : Nat) : Int))).toNat).toNat = d.toNat / 256 ^ i := by
    rw [show (GI.toZ (((8 * i : Nat) : Int))).toNat = 8 * i from rfl, Afs, Nat.pow_mul]
   show Int32.ofInt (Int8.ofInt ((Cd d (GI.toZ (((8 * i : Nat) : Int))).toNat).toNat : Int)).toInt = _
   rw [e1, s8, Int8.toInt_ofInt, bm8]
  rw [Aeh, Amr, if_pos (by rw [Af]; simp; omega), e8, Ca (by rw [Ci]; simp; omega), Aa, ev, Cl (by omega), Aa, Yh _ (by omega), Aa, Ag (by omega) (by omega), show 16 - i = (15 - i) + 1 by omega, List.replicate_succ, Apx (Ali d i)]
  rw [Awd, show 16 - (i + 1) = 15 - i by omega, List.append_assoc] at ih
  exact ih
theorem Bmz (d : UInt64) : ∀ (j i q : Nat) (e : UInt64), i + j = 8 → j < q → e.toNat = d.toNat / 256 ^ i → Ga q e (i : Int) (Ajn d i ++ List.replicate (16 - i) 0) = some (Ajn d 8 ++ List.replicate 8 0)
 | 0, i, q + 1, e, hi, _, he => by
  obtain rfl : i = 8 := by omega
  rw [Ga, Sf, if_neg (by rw [Af]; simp)]; rfl
 | j + 1, i, q + 1, e, hi, hq, he => by
  have hlen : (Ajn d i ++ List.replicate (16 - i) 0).length = 16 := by simp [Ali]; omega
  have hq2 : (Bq e (256 : UInt64)).toNat = d.toNat / 256 ^ (i + 1) := by
   rw [Ar4, UInt64.toNat_div, he, Nat.pow_succ, ← Nat.div_div_eq_div_mul]; rfl
  have ih := Bmz d j (i + 1) q (Bq e (256 : UInt64)) (by omega) (by omega) hq2
  have ev : (Ad (Abg e (256 : UInt64)) : Int32) = Int32.ofInt ((d.toNat / 256 ^ i % 256 : Nat) : Int) := by
   show Int32.ofInt ((Abg e (256 : UInt64)).toNat : Int) = _
   rw [Beg, UInt64.toNat_mod, he]; rfl
  have hz : d.toNat / 256 ^ i % 256 < 256 := Nat.mod_lt _ (by omega)
  have et : (Int32.ofInt ((d.toNat / 256 ^ i % 256 : Nat) : Int)).toInt = ((d.toNat / 256 ^ i % 256 : Nat) : Int) := by
   rw [Int32.toInt_ofInt, Int.bmod_eq_of_le (by show -(4294967296 / 2 : Int) ≤ _; omega) (by show _ < (4294967296 + 1) / 2; omega)]
  have hp8 : ∀ x : Int32, x = s8 (d.toNat / 256 ^ i % 256) → Rs (Ga q) e (i : Int) (Ajn d i ++ List.replicate (16 - i) 0) x = some (Ajn d 8 ++ List.replicate 8 0) := by
   intro x hx
   rw [Rs, Ai4, hx, Cl (by omega), Aa, Yh _ (by omega), Aa, Ag (by omega) (by omega), show 16 - i = (15 - i) + 1 by omega, List.replicate_succ, Apx (Ali d i)]
   rw [Awd, show 16 - (i + 1) = 15 - i by omega, List.append_assoc] at ih
   exact ih
  rw [Ga, Sf, if_pos (by rw [Af]; simp; omega), ev, Bhv, et, show (127 : Int32).toInt = 127 from rfl]
  by_cases h : d.toNat / 256 ^ i % 256 < 128
  ·rw [if_neg (by simp only [decide_eq_true_eq]; omega)]
   exact hp8 _ (by rw [s8, if_pos h])
  ·rw [if_pos (by simp only [decide_eq_true_eq]; omega)]
   refine hp8 _ ?_
   rw [s8, if_neg h, Awy, Int32.ofInt_sub]; rfl
def Ard (p : List UInt8) : List Int32 := Ajn (Afr p) 8 ++ List.replicate 8 0
theorem Av9 (p : List UInt8) : (Ard p).length = 16 := by simp [Ard, Ali]
theorem Blc (p : List UInt8) (hp : p.length ≤ 64) : Ahg p = some (Ard p, 0) := by
 have h := Bje (Afr p) 8 0 Ay (by omega) (by have := As; omega)
 have h2 : Bb7 (Afr p) = some (Ard p) := h
 rw [Ahg, if_neg (by rw [Ap, Ac]; simp; omega), Bfb p (by omega), Aa]
 simp only
 rw [if_neg (by rw [Al]; simp), h2, Aa]
theorem Bmm (p : List UInt8) (hp : p.length ≤ 64) : Ve p = some (Ard p, 0) := by
 have h := Bmz (Afr p) 8 0 Ay (Afr p) (by omega) (by have := As; omega) (by simp)
 have h2 : Afz (Afr p) = some (Ard p) := h
 rw [Ve, if_neg (by rw [Ap, Ac]; simp; omega), Aec, Acj, if_neg (by rw [Ap, Ac]; simp; omega), Be9 p (by omega), Aa, Aa, Aa]
 simp only
 rw [h2, Aa]
end Go.Pl
set_option linter.unusedVariables false
set_option linter.unusedSimpArgs false
namespace Go.Pl
open Go Go.Lv
def u8 (z : Int) : UInt8 := UInt8.ofNat (z % 256).toNat
theorem Bb8 (z : Int) : u8 (z % 256) = u8 z := by rw [u8, u8]; congr 2; omega
def wB (bits : Int) : Nat := if bits = 8 then 1 else if bits = 16 then 2 else 3
theorem Bpp {bits : Int} (h : Ce bits) : Bq bits 8 = (wB bits : Int) := by obtain rfl | rfl | rfl := h <;> rfl
theorem Bji (bits : Int) : 1 ≤ wB bits ∧ wB bits ≤ 3 := by
 unfold wB; split; · omega
 ·split <;> omega
def Arj (bits : Int) (x : Int) : List UInt8 := if bits = 8 then [u8 (x + 128)] else if bits = 16 then [u8 x, u8 (x / 256)] else [u8 x, u8 (x / 256), u8 (x / 65536)]
theorem Bec (bits x : Int) : (Arj bits x).length ≤ 3 := by
 unfold Arj; split; · simp
 ·split <;> simp
theorem Bpl (x : Int32) (k : Nat) (hk : k ≤ 32) : (Ad (Cd x k) : UInt8) = u8 (x.toInt.fdiv (2 ^ k)) := by
 have h := Acm x
 have e : Cd x k = Int32.ofInt (x.toInt.fdiv (2 ^ k)) := by
  show Int32.ofInt (x.toInt.fdiv (2 ^ min k 32)) = _
  rw [Nat.min_eq_left hk]
 have hb : -2147483648 ≤ x.toInt.fdiv (2 ^ k) ∧ x.toInt.fdiv (2 ^ k) < 2147483648 := by
  have hpos : (0 : Int) < 2 ^ k := Int.pow_pos (by omega)
  rw [Int.fdiv_eq_ediv_of_nonneg _ (by omega)]
  constructor
  ·refine (Int.le_ediv_iff_mul_le hpos).2 ?_
   have : (1 : Int) ≤ 2 ^ k := by omega
   have h2 : -2147483648 * (2 ^ k : Int) ≤ -2147483648 * 1 := Int.mul_le_mul_of_nonpos_left (by omega) this
   omega
  ·refine Int.ediv_lt_of_lt_mul hpos ?_
   have : (1 : Int) ≤ 2 ^ k := by omega
   have h2 : (2147483648 : Int) * 1 ≤ 2147483648 * 2 ^ k := Int.mul_le_mul_of_nonneg_left this (by omega)
   omega
 show UInt8.ofNat ((Cd x k).toInt % 256).toNat = _
 rw [e, Int32.toInt_ofInt, Int.bmod_eq_of_le (by show -(4294967296 / 2 : Int) ≤ _; omega) (by show _ < (4294967296 + 1) / 2; omega)]; rfl
section
variable (bk : Int → List UInt8 → Option (List UInt8 × Int)) (l : List Int32)
theorem Avs {bits : Int} (h : Ce bits) (c : Int32) (x : Int) (i q : Nat) (acc : List UInt8) (hi : i < wB bits) (ha : acc.length ≤ 100000) :
  Hq bk bits l c x (q + 1) (i : Int) acc = Hq bk bits l c x q ((i + 1 : Nat) : Int) (acc ++ [u8 (c.toInt.fdiv (2 ^ (8 * i)))]) := by
 have hw := Bji bits
 have e8 : Bb (8 : Int) (i : Int) = ((8 * i : Nat) : Int) := by rw [Gt (by omega) (by omega)]; omega
 rw [Hq, Zm, Bpp h, if_pos (by rw [Af]; simp; omega), e8, Ca (by rw [Ci]; simp; omega), Aa, show (GI.toZ (((8 * i : Nat) : Int))).toNat = 8 * i from rfl, Bpl _ _ (by omega), Eu (by simp; omega), Aa, Ag (by omega) (by omega)]; rfl
theorem Bgd {bits : Int} (h : Ce bits) (c : Int32) (x : Int) (q : Nat) (acc : List UInt8) : Hq bk bits l c x (q + 1) ((wB bits : Nat) : Int) acc = bk (Ae x 1) acc := by
 rw [Hq, Zm, Bpp h, if_neg (by rw [Af]; simp), Afv, Anr]
theorem Bt8 {bits : Int} (h : Ce bits) (c : Int32) (x : Int) (acc : List UInt8) (ha : acc.length ≤ 90000) (hr : -(hB bits) ≤ c.toInt ∧ c.toInt < hB bits) :
  Js bk bits l x acc (if bits = 8 then Ae c (128 : Int32) else c) = bk (Ae x 1) (acc ++ Arj bits c.toInt) := by
 have e : Ay = (Ay - 4) + 1 + 1 + 1 + 1 := by have := As; omega
 have hc := Acm c
 rw [Js, Af6, Agh, e]
 have g0 := fun (c : Int32) q acc ha => Avs bk l h c x 0 q acc (by have := Bji bits; omega) ha
 obtain rfl | rfl | rfl := h
 ·have hh : hB 8 = 128 := rfl
  rw [hh] at hr
  have e1 : (Ae c (128 : Int32)).toInt = c.toInt + 128 := by
   show (Int32.ofInt (c.toInt + (128 : Int32).toInt)).toInt = _
   rw [show (128 : Int32).toInt = 128 from rfl, Int32.toInt_ofInt, Int.bmod_eq_of_le (by show -(4294967296 / 2 : Int) ≤ _; omega) (by show _ < (4294967296 + 1) / 2; omega)]
  have g1 := Bgd bk l (bits := 8) (.inl rfl) (Ae c (128 : Int32)) x (Ay - 4 + 1 + 1)
  rw [if_pos rfl, show (0 : Int) = ((0 : Nat) : Int) from rfl, g0 _ _ _ (by omega)]
  refine Eq.trans (g1 _) ?_
  rw [e1, Arj, if_pos rfl]
  show bk _ (acc ++ [u8 ((c.toInt + 128).fdiv 1)]) = _
  rw [Int.fdiv_one]
 ·have g1 := fun q acc ha => Avs bk l (bits := 16) (.inr (.inl rfl)) c x 1 q acc (by decide) ha
  have g2 := Bgd bk l (bits := 16) (.inr (.inl rfl)) c x (Ay - 4 + 1)
  rw [if_neg (by decide), show (0 : Int) = ((0 : Nat) : Int) from rfl, g0 _ _ _ (by omega), g1 _ _ (by simp; omega)]
  refine Eq.trans (g2 _) ?_
  rw [Arj, if_neg (by decide), if_pos rfl, List.append_assoc]
  show bk _ (acc ++ [u8 (c.toInt.fdiv 1), u8 (c.toInt.fdiv 256)]) = _
  rw [Int.fdiv_one, Int.fdiv_eq_ediv_of_nonneg _ (by omega)]
 ·have g1 := fun q acc ha => Avs bk l (bits := 24) (.inr (.inr rfl)) c x 1 q acc (by decide) ha
  have g2 := fun q acc ha => Avs bk l (bits := 24) (.inr (.inr rfl)) c x 2 q acc (by decide) ha
  have g3 := Bgd bk l (bits := 24) (.inr (.inr rfl)) c x (Ay - 4)
  rw [if_neg (by decide), show (0 : Int) = ((0 : Nat) : Int) from rfl, g0 _ _ _ (by omega), g1 _ _ (by simp; omega), g2 _ _ (by simp; omega)]
  refine Eq.trans (g3 _) ?_
  rw [Arj, if_neg (by decide), if_neg (by decide), List.append_assoc, List.append_assoc]
  show bk _ (acc ++ [u8 (c.toInt.fdiv 1), u8 (c.toInt.fdiv 256), u8 (c.toInt.fdiv 65536)]) = _
  rw [Int.fdiv_one, Int.fdiv_eq_ediv_of_nonneg _ (by omega), Int.fdiv_eq_ediv_of_nonneg _ (by omega)]
end
def Rp (bits : Int) (l : List Int32) : List UInt8 := l.flatMap fun x => Arj bits x.toInt
theorem Ams (bits : Int) : ∀ l : List Int32, (Rp bits l).length ≤ 3 * l.length
 | [] => by simp [Rp]
 | x :: l => by
  have h1 := Ams bits l
  have h2 := Bec bits x.toInt
  simp only [Rp, List.flatMap_cons, List.length_append, List.length_cons] at *
  omega
def inR (bits : Int) (l : List Int32) : Prop := ∀ x ∈ l, -(hB bits) ≤ x.toInt ∧ x.toInt < hB bits
theorem Bjx {bits : Int} (h : Ce bits) (l : List Int32) (hl : l.length ≤ 4000) (hr : inR bits l) : ∀ (j i q : Nat), i + j = l.length → j < q → Ei bits l q (i : Int) (Rp bits (l.take i)) = some (Rp bits l, 0)
 | 0, i, q + 1, hi, _ => by
  rw [Ei, Zq, if_neg (by rw [Af, Ac]; simp; omega), List.take_of_length_le (by omega)]; rfl
 | j + 1, i, q + 1, hi, hq => by
  have hlt : i < l.length := by omega
  have ih := Bjx h l hl hr j (i + 1) q (by omega) (by omega)
  have hlen := Ams bits (l.take i)
  have hx := hr l[i] (List.getElem_mem _)
  have h1 := Bt8 (Ei bits l q) l h l[i] (i : Int) (Rp bits (l.take i)) (by rw [List.length_take] at hlen; omega) hx
  rw [Ei, Zq, if_pos (by rw [Af, Ac]; simp; omega), Cl hlt, Aa]
  have e : (if (geq bits (8 : Int)) = true then Js (Ei bits l q) bits l (i : Int) (Rp bits (l.take i)) (Ae l[i] (128 : Int32)) else Js (Ei bits l q) bits l (i : Int) (Rp bits (l.take i)) l[i]) = Js (Ei bits l q) bits l (i : Int) (Rp bits (l.take i)) (if bits = 8 then Ae l[i] (128 : Int32) else l[i]) := by
   by_cases h8 : bits = 8
   ·rw [if_pos (by rw [Az]; simpa using h8), if_pos h8]
   ·rw [if_neg (by rw [Az]; simpa using h8), if_neg h8]
  rw [e, h1, Ag (by omega) (by omega)]
  rw [All hlt] at ih
  have e2 : Rp bits (l.take i ++ [l[i]]) = Rp bits (l.take i) ++ Arj bits l[i].toInt := by unfold Rp; rw [List.flatMap_append, List.flatMap_singleton]
  rw [e2] at ih
  exact ih
theorem Bar {bits : Int} (h : Ce bits) {l : List Int32} (hl : l.length ≤ 4000) (hc : Au bits l = some 0) : inR bits l := by
 have hh := Aq2 bits
 have key : ∀ (j i q : Nat), i + j = l.length → j < q → Bd l (hB bits) q (i : Int) = some 0 → ∀ k, i ≤ k → (hk : k < l.length) → -(hB bits) ≤ l[k].toInt ∧ l[k].toInt < hB bits := by
  intro j
  induction j with
  | zero => intro i q hi hq _ k h1 h2; omega
  | succ j ih =>
   intro i q hi hq hs k h1 h2
   obtain ⟨q, rfl⟩ : ∃ k, q = k + 1 := ⟨q - 1, by omega⟩
   rw [Bd, Cr, if_pos (by rw [Af, Ac]; simp; omega), Cl (by omega), Aa, Aa, Du, Bhs, Bu (by omega) (by omega), Ag (by omega) (by omega), Af, Ci] at hs
   by_cases g1 : l[i].toInt < 0 - hB bits
   ·rw [if_pos (by simpa using g1)] at hs; simp at hs
   ·rw [if_neg (by simpa using g1)] at hs
    by_cases g2 : hB bits ≤ l[i].toInt
    ·rw [if_pos (by simpa using g2)] at hs; simp at hs
    ·rw [if_neg (by simpa using g2)] at hs
     by_cases hk : k = i
     ·subst hk; omega
     ·exact ih (i + 1) q (by omega) (by omega) hs k (by omega) h2
 rw [Au, Fh, Aum h, Aa, if_neg (by rw [Az]; simp; omega), if_neg (by rw [Ap, Ac]; simp; omega)] at hc
 have := key l.length 0 Ay (by omega) (by have := As; omega) hc
 intro x hx
 obtain ⟨k, hk, rfl⟩ := List.getElem_of_mem hx
 exact this k (by omega) hk
theorem Bg5 {bits : Int} (h : Ce bits) {l : List Int32} (hl : l.length ≤ 4000) (hc : Au bits l = some 0) : Afu bits l = some (Rp bits l, 0) := by
 have h1 := Bjx h l hl (Bar h hl hc) l.length 0 Ay (by omega) (by have := As; omega)
 rw [Afu, Ai2, Arw h l hl, hc, Aa, if_neg (by rw [Al]; simp)]
 exact h1
theorem Bst {bits : Int} (h : Ce bits) (x : Int32) (hr : -(hB bits) ≤ x.toInt ∧ x.toInt < hB bits) : Xi bits x = some (Arj bits x.toInt) := by
 have hx := Acm x
 have gu : ∀ z : Int, (Ad z : UInt8) = u8 z := fun z => rfl
 have hq : ∀ n : Int, 0 ≤ n → n ≤ 20000000 → Bq n (256 : Int) = n / 256 ∧ Bq n (65536 : Int) = n / 65536 := by
  intro n h1 h2
  constructor <;> (rw [Af1, Int.tdiv_eq_ediv_of_nonneg h1, Bu (by omega) (by omega)])
 have hm : ∀ n : Int, 0 ≤ n → Il n (256 : Int) = n % 256 := fun n h1 => by rw [Il, Int.tmod_eq_emod_of_nonneg h1]
 rw [Xi, Yf, Du]
 obtain rfl | rfl | rfl := h
 ·rw [if_pos (by rw [Az]; rfl), Ag (by omega) (by omega), gu, Arj, if_pos rfl]
 ·have hh : hB 16 = 32768 := rfl
  rw [hh] at hr
  have hp : ∀ n : Int, 0 ≤ n → n ≤ 70000 → u8 n = u8 x.toInt → u8 (n / 256) = u8 (x.toInt / 256) → Hj 16 n = some (Arj 16 x.toInt) := by
   intro n h1 h2 h3 h4
   rw [Hj, Yu, if_neg (by rw [Az]; decide), hm n h1, (hq n h1 (by omega)).1, hm _ (by omega), gu, gu, Bb8, Bb8, h3, h4, Arj, if_neg (by decide), if_pos rfl]
  rw [if_neg (by rw [Az]; decide)]
  by_cases hn : x.toInt < 0
  ·rw [if_pos (by rw [Af]; simpa using hn), Aum (.inr (.inl rfl)), Aa, hh, Gt (by omega) (by omega), Ag (by omega) (by omega)]
   refine hp _ (by omega) (by omega) ?_ ?_
   ·rw [u8, u8]; congr 2; omega
   ·rw [u8, u8]; congr 2; omega
  ·rw [if_neg (by rw [Af]; simpa using hn)]
   exact hp _ (by omega) (by omega) rfl rfl
 ·have hh : hB 24 = 8388608 := rfl
  rw [hh] at hr
  have hp : ∀ n : Int, 0 ≤ n → n ≤ 16777215 → u8 n = u8 x.toInt → u8 (n / 256) = u8 (x.toInt / 256) → u8 (n / 65536) = u8 (x.toInt / 65536) → Hj 24 n = some (Arj 24 x.toInt) := by
   intro n h1 h2 h3 h4 h5
   rw [Hj, Yu, if_pos (by rw [Az]; rfl), hm n h1, (hq n h1 (by omega)).1, (hq n h1 (by omega)).2, hm _ (by omega), gu, gu, gu, Bb8, Bb8, h3, h4, h5, Eu (by simp), Aa, Arj, if_neg (by decide), if_neg (by decide)]; rfl
  rw [if_neg (by rw [Az]; decide)]
  by_cases hn : x.toInt < 0
  ·rw [if_pos (by rw [Af]; simpa using hn), Aum (.inr (.inr rfl)), Aa, hh, Gt (by omega) (by omega), Ag (by omega) (by omega)]
   refine hp _ (by omega) (by omega) ?_ ?_ ?_
   ·rw [u8, u8]; congr 2; omega
   ·rw [u8, u8]; congr 2; omega
   ·rw [u8, u8]; congr 2; omega
  ·rw [if_neg (by rw [Af]; simpa using hn)]
   exact hp _ (by omega) (by omega) rfl rfl rfl
theorem Bis {bits : Int} (h : Ce bits) (l : List Int32) (hl : l.length ≤ 4000) (hr : inR bits l) : ∀ (j i q : Nat), i + j = l.length → j < q → Fi bits l q (i : Int) (Rp bits (l.take i)) = some (Rp bits l, 0)
 | 0, i, q + 1, hi, _ => by
  rw [Fi, Ma, if_neg (by rw [Af, Ac]; simp; omega), List.take_of_length_le (by omega)]; rfl
 | j + 1, i, q + 1, hi, hq => by
  have hlt : i < l.length := by omega
  have ih := Bis h l hl hr j (i + 1) q (by omega) (by omega)
  have hlen := Ams bits (l.take i)
  have hol := Bec bits l[i].toInt
  rw [List.length_take] at hlen
  have e2 : Rp bits (l.take i ++ [l[i]]) = Rp bits (l.take i) ++ Arj bits l[i].toInt := by unfold Rp; rw [List.flatMap_append, List.flatMap_singleton]
  rw [All hlt, e2] at ih
  rw [Fi, Ma, if_pos (by rw [Af, Ac]; simp; omega), Cl hlt, Aa, Bst h _ (hr l[i] (List.getElem_mem _)), Aa, Eu (by omega), Aa, Ag (by omega) (by omega)]
  exact ih
theorem Bkg {bits : Int} (h : Ce bits) {l : List Int32} (hl : l.length ≤ 4000) (hc : Au bits l = some 0) : Ti bits l = some (Rp bits l, 0) := by
 have h1 := Bis h l hl (Bar h hl hc) l.length 0 Ay (by omega) (by have := As; omega)
 rw [Ti, Ub, hc, Aa, if_neg (by rw [Al]; simp)]
 exact h1
end Go.Pl
set_option linter.unusedVariables false
set_option linter.unusedSimpArgs false
namespace Go.Pl
open Go Go.Lv
def Alg : List UInt8 → Nat → Int × Int
 | [], n => ((n : Int), 0)
 | c :: r, n => if 128 ≤ c.toNat then (0, 12) else Alg r (128 * n + c.toNat)
theorem Bjq : ∀ (l : List UInt8) (n k : Nat), n < 128 ^ k → 0 ≤ (Alg l n).1 ∧ (Alg l n).1 < ((128 ^ (k + l.length) : Nat) : Int)
 | [], n, k, h => by simp [Alg]; exact_mod_cast h
 | c :: r, n, k, h => by
  rw [Alg]
  split
  ·have : 0 < 128 ^ (k + (c :: r).length) := Nat.pow_pos (by omega)
   exact ⟨Int.le_refl _, by simp only; exact_mod_cast this⟩
  ·have := Bjq r (128 * n + c.toNat) (k + 1) (by rw [Nat.pow_succ]; omega)
   rw [List.length_cons, show k + (r.length + 1) = k + 1 + r.length by omega]
   exact this
theorem or7 (n c : Nat) (hn : n < 268435456) (hc : c < 128) : gor (Fc (n : Int) (GI.toZ (7 : UInt64)).toNat) (c : Int) = ((128 * n + c : Nat) : Int) := by
 have e : (GI.toZ (7 : UInt64)).toNat = 7 := rfl
 have h1 : Fc (n : Int) 7 = ((2 ^ 7 * n : Nat) : Int) := by
  have : Fc (n : Int) 7 = wrap64 ((n : Int) * 2 ^ 7) := rfl
  rw [this, Bu (by omega) (by omega)]; omega
 rw [e, h1]
 have h2 : gor ((2 ^ 7 * n : Nat) : Int) (c : Int) = wrap64 ((BitVec.ofInt 64 ((2 ^ 7 * n : Nat) : Int) ||| BitVec.ofInt 64 (c : Int)).toNat : Int) := rfl
 rw [h2, BitVec.toNat_or, BitVec.toNat_ofInt, BitVec.toNat_ofInt]
 have h3 : (((2 ^ 7 * n : Nat) : Int) % ((2 ^ 64 : Nat) : Int)).toNat = 2 ^ 7 * n := by omega
 have h4 : ((c : Int) % ((2 ^ 64 : Nat) : Int)).toNat = c := by omega
 rw [h3, h4, ← Nat.two_pow_add_eq_or_of_lt (by simpa using hc), Bu (by omega) (by omega)]
theorem Bjg (b : List UInt8) (hb : b.length = 4) : ∀ (j i q n : Nat), i + j = 4 → j < q → n < 128 ^ i → Ky b q (n : Int) (i : Int) = some (Alg (b.drop i) n)
 | 0, i, q + 1, n, hi, _, _ => by
  rw [Ky, Xj, if_neg (by rw [Af, Ac]; simp; omega), show b.drop i = [] by simp; omega]; rfl
 | j + 1, i, q + 1, n, hi, hq, hn => by
  have hlt : i < b.length := by omega
  have hn2 : n < 268435456 := Nat.lt_of_lt_of_le hn (show 128 ^ i ≤ 128 ^ 4 from Nat.pow_le_pow_right (by omega) (by omega))
  rw [Ky, Xj, if_pos (by rw [Af, Ac]; simp; omega), Cl hlt, Aa, drop_cons hlt, Alg, Bmj]
  by_cases hc : 128 ≤ b[i].toNat
  ·rw [if_pos (by simp; omega), if_pos hc]
  ·rw [if_neg (by simp; omega), if_neg hc, Ahm, or7 n _ hn2 (by omega), Ag (by omega) (by omega)]
   exact Bjg b hb j (i + 1) q _ (by omega) (by omega) (by rw [Nat.pow_succ]; omega)
theorem Bpk (b : List UInt8) (hb : b.length = 4) : ∀ (j i q n : Nat), i + j = 4 → j < q → n < 128 ^ i → Fl b q (n : Int) (i : Int) = some (Alg (b.drop i) n)
 | 0, i, q + 1, n, hi, _, _ => by
  rw [Fl, Mb, if_neg (by rw [Af]; simp; omega), show b.drop i = [] by simp; omega]; rfl
 | j + 1, i, q + 1, n, hi, hq, hn => by
  have hlt : i < b.length := by omega
  have hn2 : n < 268435456 := Nat.lt_of_lt_of_le hn (show 128 ^ i ≤ 128 ^ 4 from Nat.pow_le_pow_right (by omega) (by omega))
  rw [Fl, Mb, if_pos (by rw [Af]; simp; omega), Cl hlt, Aa, drop_cons hlt, Alg, Bn2]
  have h128 : (128 : UInt8).toNat = 128 := rfl
  by_cases hc : 128 ≤ b[i].toNat
  ·rw [if_pos (by simpa using hc), if_pos hc]
  ·have h3 := b[i].toNat_lt
   rw [if_neg (by simpa using hc), if_neg hc, Aa, Ahm, Gt (by omega) (by omega), Ag (by omega) (by omega), Ag (by omega) (by omega)]
   have := Bpk b hb j (i + 1) q (128 * n + b[i].toNat) (by omega) (by omega) (by rw [Nat.pow_succ]; omega)
   rw [← this]; rfl
theorem Bg1 (b : List UInt8) (hb : b.length = 4) : Aev b = some (Alg b 0) := by
 have h := Bjg b hb 4 0 Ay 0 (by omega) (by have := As; omega) (by simp)
 rw [Aev, Aei, if_neg (by rw [Al, Ac]; simp; omega), Ad2]; exact h
theorem Blt (b : List UInt8) (hb : b.length = 4) : Td b = some (Alg b 0) := by
 have h := Bpk b hb 4 0 Ay 0 (by omega) (by have := As; omega) (by simp)
 rw [Td, Uu, if_neg (by rw [Al, Ac]; simp; omega), Up]; exact h
theorem Bga {b : List UInt8} (hb : b.length = 4) : 0 ≤ (Alg b 0).1 ∧ (Alg b 0).1 < 268435456 := by
 have := Bjq b 0 0 (by simp)
 rw [hb] at this
 simpa using this
theorem As9 (s p : List UInt8) : Ms s p = some (decide (p.length ≤ s.length ∧ s.take p.length = p)) := by
 rw [Ms]
 by_cases h : p.length ≤ s.length
 ·rw [if_pos (by rw [Ci, Ac, Ac]; simp; omega), show Ac p = (p.length : Int) from rfl, Fy (by omega) (by omega), Aa, Kv, Aa, Int.toNat_natCast]
  congr 1
  rw [Bool.eq_iff_iff]; simp [h]
 ·rw [if_neg (by rw [Ci, Ac, Ac]; simp; omega)]
  simp [h]
def Ans (b : List UInt8) (n : Int) : Int × Int :=
 if 4000 < n then (0, 4) else if (b.length : Int) < n then (0, 24) else
 if b.getD 5 0 = 16 ∧ (b.take n.toNat).drop (n - 10).toNat ≠ [51, 68, 73] ++ part b 3 7 then (0, 12) else (n, 0)
def Aym (b : List UInt8) (r : Int) : Int × Int := Ans b (r + 10 + (if b.getD 5 0 = 16 then 10 else 0))
def Ajl (b : List UInt8) : Int × Int :=
 if ¬ (3 ≤ b.length ∧ b.take 3 = [73, 68, 51]) then (0, 6) else if b.length < 10 then (0, 24) else
 if (Alg (part b 6 4) 0).2 ≠ 0 ∨ b.getD 4 0 ≠ 0 ∨ ¬ ((b.getD 5 0 = 0 ∧ 2 ≤ (b.getD 3 0).toNat ∧ (b.getD 3 0).toNat ≤ 4) ∨ (b.getD 5 0 = 16 ∧ b.getD 3 0 = 4)) then (0, 12) else
 Aym b (Alg (part b 6 4) 0).1
theorem Arv {b : List UInt8} {i : Nat} (h : i < b.length) : Aj b (i : Int) = some (b.getD i 0) := by
 rw [Cl h]; simp [List.getD_eq_getElem?_getD, h]
theorem Mv {b : List UInt8} (a w : Nat) (h : a + w ≤ b.length) : Br b (a : Int) ((a + w : Nat) : Int) = some (part b a w) := by
 rw [Aml (by omega) (by omega) (by omega)]; rfl
theorem Bsf (b : List UInt8) (r : Int) (h10 : 10 ≤ b.length) (h0 : 0 ≤ r) (h1 : r < 268435456) : Nb b r = some (Aym b r) := by
 have g5 : Aj b (5 : Int) = some (b.getD 5 0) := Arv (i := 5) (by omega)
 have key : ∀ n : Int, 10 ≤ n → n < 268435500 → My b n = some (Ans b n) := by
  intro n hn hn2
  rw [My, Afp, Ans]
  by_cases c1 : 4000 < n
  ·rw [if_pos (by rw [Ap]; simpa using c1), if_pos c1]
  ·rw [if_neg (by rw [Ap]; simpa using c1), if_neg c1]
   by_cases c2 : (b.length : Int) < n
   ·rw [if_pos (by rw [Af, Ac]; simpa using c2), if_pos c2]
   ·have e3 : Br b (3 : Int) (10 : Int) = some (part b 3 7) := Mv 3 7 (by omega)
    rw [if_neg (by rw [Af, Ac]; simpa using c2), if_neg c2, g5, Aa]
    by_cases c3 : b.getD 5 0 = 16
    ·rw [if_pos (by rw [Amc]; simpa using c3), Bw (by omega) (by omega), Aml (by omega) (by omega) (by omega), Aa, e3, Aa, Eu (by rw [Cn (by omega)]; simp), Aa]
     by_cases c4 : (b.take n.toNat).drop (n - 10).toNat = [51, 68, 73] ++ part b 3 7
     ·rw [if_neg (by simpa using c4), if_neg (by intro h; exact h.2 c4)]
     ·rw [if_pos (by simpa using c4), if_pos ⟨c3, c4⟩]
    ·rw [if_neg (by rw [Amc]; simpa using c3), if_neg (fun h => c3 h.1)]
 rw [Nb, Wi, g5, Aa, Aym]
 by_cases c3 : b.getD 5 0 = 16
 ·rw [if_pos (by rw [Amc]; simpa using c3), Ag (by rw [Ag] <;> omega) (by rw [Ag] <;> omega), Ag (by omega) (by omega), key _ (by omega) (by omega), if_pos c3, show 10 + r + 10 = r + 10 + 10 by omega]
 ·rw [if_neg (by rw [Amc]; simpa using c3), Ag (by omega) (by omega), key _ (by omega) (by omega), if_neg c3, show 10 + r = r + 10 + 0 by omega]
theorem Bnh (b : List UInt8) (hb : b.length < 4611686018427387904) : Vv b = some (Ajl b) := by
 rw [Vv, Xf, Ajl]
 by_cases h3 : 3 ≤ b.length
 ·rw [if_neg (by rw [Af, Ac]; simp; omega), Fy (by omega) (by omega), Aa]
  by_cases hp : b.take 3 = [73, 68, 51]
  ·rw [if_neg (by simpa using hp), if_neg (by simp [h3, hp]), Wb, Wr]
   by_cases h10 : b.length < 10
   ·rw [if_pos (by rw [Af, Ac]; simp; omega), if_pos h10]
   ·have e6 : Br b (6 : Int) (10 : Int) = some (part b 6 4) := Mv 6 4 (by omega)
    have g3 : Aj b (3 : Int) = some (b.getD 3 0) := Arv (i := 3) (by omega)
    have g4 : Aj b (4 : Int) = some (b.getD 4 0) := Arv (i := 4) (by omega)
    have g5 : Aj b (5 : Int) = some (b.getD 5 0) := Arv (i := 5) (by omega)
    obtain ⟨v1, v2⟩ := Bga (b := part b 6 4) (Cn (by omega))
    rw [if_neg (by rw [Af, Ac]; simp; omega), if_neg h10, e6, Aa, Blt _ (Cn (by omega)), Aa]
    have ht := Bsf b (Alg (part b 6 4) 0).1 (by omega) v1 v2
    generalize Alg (part b 6 4) 0 = v at *
    obtain ⟨v, e⟩ := v
    simp only at ht v1 v2 ⊢
    simp only [Aa, g3, g4, g5, ht]
    generalize b.getD 3 0 = x at *
    generalize b.getD 4 0 = y at *
    generalize b.getD 5 0 = z at *
    simp only [Bg6, Buc, Bmj, Al]
    by_cases he : e = 0 <;> by_cases hy : y = 0 <;> by_cases hz : z = 0 <;> by_cases hz2 : z = 16 <;> by_cases hx : x = 4 <;> by_cases hx2 : x.toNat < 2 <;> by_cases hx4 : 4 < x.toNat <;> simp_all <;> (rw [if_neg (by omega), if_neg (by omega)])
  ·rw [if_pos (by simpa using hp), if_pos (by simp [hp])]
 ·rw [if_pos (by rw [Af, Ac]; simp; omega), if_pos (by simp [h3])]
theorem Azo (b : List UInt8) (n : Int) (h10 : 10 ≤ b.length) (hn : 10 ≤ n) (hn2 : n < 268435500) : Zt b (b.getD 5 0) n = some (Ans b n) := by
 rw [Zt, Anw]
 by_cases c1 : 4000 < n
 ·rw [if_pos (by rw [Ap]; simpa using c1), Ans, if_pos c1]
 ·rw [if_neg (by rw [Ap]; simpa using c1)]
  by_cases c2 : (b.length : Int) < n
  ·rw [if_pos (by rw [Af, Ac]; simpa using c2), Ans, if_neg c1, if_pos c2]
  ·have e3 : Br b (3 : Int) (10 : Int) = some (part b 3 7) := Mv 3 7 (by omega)
   rw [if_neg (by rw [Af, Ac]; simpa using c2)]
   by_cases c3 : b.getD 5 0 = 16
   ·have hl : ((b.take n.toNat).drop (n - 10).toNat).length = 10 := by simp; omega
    have ht : Ans b n = if (b.take n.toNat).drop (n - 10).toNat ≠ [51, 68, 73] ++ part b 3 7 then (0, 12) else (n, 0) := by rw [Ans, if_neg c1, if_neg c2]; simp only [c3, true_and]
    rw [if_pos (by rw [Amc]; simpa using c3), Bw (by omega) (by omega), Aml (by omega) (by omega) (by omega), Aa, ht]
    generalize (b.take n.toNat).drop (n - 10).toNat = f at *
    rw [Fy (by omega) (by omega), Aa, Jf (by omega) (by omega), Aa, e3, Aa, Kv, Aa]
    have hf : f = f.take 3 ++ f.drop 3 := (List.take_append_drop 3 f).symm
    by_cases c4 : f = [51, 68, 73] ++ part b 3 7
    ·subst c4
     simp
    ·by_cases c5 : f.take 3 = [51, 68, 73]
     ·have : f.drop 3 ≠ part b 3 7 := fun h => c4 (by rw [hf, c5, h])
      simp only [List.cons_append, List.nil_append] at c4
      simp [c4, c5, this]
     ·simp only [List.cons_append, List.nil_append] at c4
      simp [c4, c5]
   ·rw [if_neg (by rw [Amc]; simpa using c3), Ans, if_neg c1, if_neg c2, if_neg (fun h => c3 h.1)]
theorem Bm7 (b : List UInt8) (r : Int) (h10 : 10 ≤ b.length) (h0 : 0 ≤ r) (h1 : r < 268435456) : Zv b r (b.getD 5 0) = some (Aym b r) := by
 rw [Zv, Af7, Aym]
 by_cases c3 : b.getD 5 0 = 16
 ·rw [if_pos (by rw [Amc]; simpa using c3), Ag (by rw [Ag] <;> omega) (by rw [Ag] <;> omega), Ag (by omega) (by omega), Azo b _ h10 (by omega) (by omega), if_pos c3]
 ·rw [if_neg (by rw [Amc]; simpa using c3), Ag (by omega) (by omega), Azo b _ h10 (by omega) (by omega), if_neg c3]; simp
theorem Blo (b : List UInt8) (hb : b.length < 4611686018427387904) : Ag1 b = some (Ajl b) := by
 rw [Ag1, Zu, As9, Aa]
 by_cases hp : 3 ≤ b.length ∧ b.take 3 = [73, 68, 51]
 ·rw [if_neg (by simpa using hp)]
  by_cases h10 : b.length < 10
  ·rw [if_pos (by rw [Af, Ac]; simp; omega), Ajl, if_neg (fun h => h hp), if_pos h10]
  ·have e6 : Br b (6 : Int) (10 : Int) = some (part b 6 4) := Mv 6 4 (by omega)
   have g3 : Aj b (3 : Int) = some (b.getD 3 0) := Arv (i := 3) (by omega)
   have g4 : Aj b (4 : Int) = some (b.getD 4 0) := Arv (i := 4) (by omega)
   have g5 : Aj b (5 : Int) = some (b.getD 5 0) := Arv (i := 5) (by omega)
   obtain ⟨v1, v2⟩ := Bga (b := part b 6 4) (Cn (by omega))
   have ht := Bm7 b (Alg (part b 6 4) 0).1 (by omega) v1 v2
   rw [if_neg (by rw [Af, Ac]; simp; omega), g3, Aa, g5, Aa, Agc, Af2, e6, Aa, Bg1 _ (Cn (by omega)), Aa, Ajl, if_neg (fun h => h hp), if_neg h10]
   generalize Alg (part b 6 4) 0 = v at *
   obtain ⟨v, e⟩ := v
   simp only at ht v1 v2 ⊢
   simp only [Aa, g4, Afw, Agb]
   generalize b.getD 3 0 = x at *
   generalize b.getD 4 0 = y at *
   generalize b.getD 5 0 = z at *
   simp only [Bg6, Bu0, Amc, Bn2, Al]
   have e2 : (2 : UInt8).toNat = 2 := rfl
   have e4 : (4 : UInt8).toNat = 4 := rfl
   by_cases he : e = 0 <;> by_cases hy : y = 0 <;> by_cases hz : z = 0 <;> by_cases hz2 : z = 16 <;> by_cases hx : x = 4 <;> by_cases hx2 : 2 ≤ x.toNat <;> by_cases hx4 : x.toNat ≤ 4 <;> simp_all
 ·rw [if_pos (by rw [Bool.not_eq_true', decide_eq_false_iff_not]; exact hp), Ajl, if_pos hp]
theorem Bod {b : List UInt8} {n : Int} (h : Ajl b = (n, 0)) : 10 ≤ n ∧ n ≤ b.length ∧ n ≤ 4000 := by
 unfold Ajl at h
 split at h; · simp at h
 split at h; · simp at h
 split at h; · simp at h
 rename_i h10 _
 obtain ⟨v1, v2⟩ := Bga (b := part b 6 4) (Cn (by omega))
 unfold Aym at h
 generalize hm : (Alg (part b 6 4) 0).1 + 10 + (if b.getD 5 0 = 16 then 10 else 0) = m at h
 unfold Ans at h
 split at h; · simp at h
 split at h; · simp at h
 split at h; · simp at h
 simp only [Prod.mk.injEq, and_true] at h
 subst h
 refine ⟨?_, by omega, by omega⟩
 rw [← hm]
 split <;> omega
end Go.Pl
set_option linter.unusedVariables false
set_option linter.unusedSimpArgs false
namespace Go.Pl
open Go Go.Lv
def APE : List UInt8 := [65, 80, 69, 84, 65, 71, 69, 88]
def Ai9 (n m fl : Nat) : List UInt8 := APE ++ leB 2000 4 ++ leB (n + 32) 4 ++ leB m 4 ++ leB fl 4 ++ List.replicate 8 0
theorem Ajf {n : Nat} (h : n < 18446744073709551616) : (UInt64.ofNat n).toNat = n := by rw [UInt64.toNat_ofNat', Nat.mod_eq_of_lt h]
theorem Aqc (n m : Int) (fl : UInt64) (c : UInt64) (i q : Nat) (acc : List UInt8) (hi : i < 6) (hc : Aj ([(2000 : UInt64), (Ad (Ae n (32 : Int)) : UInt64), (Ad m : UInt64), fl, (0 : UInt64), (0 : UInt64)] : List UInt64) (i : Int) = some c) (h : c.toNat < 4294967296) (ha : acc.length ≤ 1000000) :
  Aai n m fl (q + 1) (i : Int) acc = Aai n m fl q ((i + 1 : Nat) : Int) (acc ++ leB c.toNat 4) := by
 have hb := Bc7 c 4 (by omega) (by omega) (by simpa using h)
 rw [Aai, Amg, if_pos (by rw [Af, Ac]; simp; omega), hc, Aa, Aa, show ((4 : Int)) = ((4 : Nat) : Int) from rfl, hb, Aa]
 simp only
 rw [Eu (by rw [Pg]; omega), Aa, Ag (by omega) (by omega)]; rfl
theorem Bd4 (n m : Nat) (fl : UInt64) (hn : n ≤ 3000) (hm : m ≤ 1000) (hf : fl.toNat < 4294967296) : Asj (n : Int) (m : Int) fl = some (Ai9 n m fl.toNat) := by
 have e1 : (Ad (Ae (n : Int) (32 : Int)) : UInt64).toNat = n + 32 := by rw [Ag (by omega) (by omega), show (n : Int) + 32 = ((n + 32 : Nat) : Int) by omega, Aa9, Ajf (by omega)]
 have e2 : (Ad (m : Int) : UInt64).toNat = m := by rw [Aa9, Ajf (by omega)]
 have hF : Ay = (Ay - 7) + 1 + 1 + 1 + 1 + 1 + 1 + 1 := by have := As; omega
 rw [Asj, Ar0, Arm, hF]
 rw [show ((0 : Int)) = ((0 : Nat) : Int) from rfl, Aqc n m fl 2000 0 _ _ (by omega) rfl (by decide) (by simp), Aqc n m fl _ 1 _ _ (by omega) rfl (by rw [e1]; omega) (by simp [Pg]), Aqc n m fl _ 2 _ _ (by omega) rfl (by rw [e2]; omega) (by simp [Pg]),
  Aqc n m fl fl 3 _ _ (by omega) rfl hf (by simp [Pg]), Aqc n m fl 0 4 _ _ (by omega) rfl (by decide) (by simp [Pg]), Aqc n m fl 0 5 _ _ (by omega) rfl (by decide) (by simp [Pg]), e1, e2]
 rw [Aai, Amg, if_neg (by rw [Af, Ac]; simp), Ary, Av4, Ai9]
 have z : leB (0 : UInt64).toNat 4 ++ leB (0 : UInt64).toNat 4 = List.replicate 8 0 := by decide
 have z2 : leB (2000 : UInt64).toNat 4 = leB 2000 4 := rfl
 rw [List.append_assoc _ (leB (0 : UInt64).toNat 4), z, z2]; rfl
theorem Biv (n m : Nat) (fl : UInt64) (hn : n ≤ 3000) (hm : m ≤ 1000) (hf : fl.toNat < 4294967296) : Kz (n : Int) (m : Int) fl = some (Ai9 n m fl.toNat) := by
 have e1 : (Ad (Ae (n : Int) (32 : Int)) : UInt64).toNat = n + 32 := by rw [Ag (by omega) (by omega), show (n : Int) + 32 = ((n + 32 : Nat) : Int) by omega, Aa9, Ajf (by omega)]
 have e2 : (Ad (m : Int) : UInt64).toNat = m := by rw [Aa9, Ajf (by omega)]
 have w : ∀ c : UInt64, Ck c 4 = some (leB c.toNat 4) := fun c => Ayj c 4 (by omega)
 have z2 : leB (2000 : UInt64).toNat 4 = leB 2000 4 := rfl
 rw [Kz]
 simp only [w, e1, e2, Aa]
 rw [Eu (by simp [Pg]), Aa, Eu (by simp [Pg]), Aa, Eu (by simp [Pg]), Aa, Eu (by simp [Pg]), Aa, Awr (by omega) (by omega), Aa, Eu (by simp [Pg]), Aa, z2]; rfl
theorem Ahh {b : List UInt8} {a w k : Nat} (h : a + w ≤ k) : part (b.take k) a w = part b a w := by rw [part, part, List.take_take, Nat.min_eq_left h]
def Aj1 (b : List UInt8) : Bool := decide (Dw (part b 12 4) < 32 ∨ 3032 < Dw (part b 12 4) ∨ 1000 < Dw (part b 16 4))
theorem Bn9 (b : List UInt8) (h : 20 ≤ b.length) : (((Cj (leU (part b 12 4)) (32 : UInt64)) || (Cu (leU (part b 12 4)) (3032 : UInt64))) || (Cu (leU (part b 16 4)) (1000 : UInt64))) = Aj1 b := by
 rw [Avm, Ajy, Ajy, Ajp (by rw [Cn (by omega)]; omega), Ajp (by rw [Cn (by omega)]; omega), Aj1]
 show ((decide (Dw (part b 12 4) < 32) || decide (3032 < Dw (part b 12 4))) || decide (1000 < Dw (part b 16 4))) = _
 simp [Bool.or_assoc]
theorem Bbk (b : List UInt8) (h : 20 ≤ b.length) (hb : Aj1 b = false) : Ao (Ad (leU (part b 12 4)) : Int) (32 : Int) = ((Dw (part b 12 4) - 32 : Nat) : Int) ∧ (Ad (leU (part b 16 4)) : Int) = ((Dw (part b 16 4) : Nat) : Int) ∧ Dw (part b 12 4) - 32 ≤ 3000 ∧ Dw (part b 16 4) ≤ 1000 := by
 simp only [Aj1, decide_eq_false_iff_not] at hb
 refine ⟨?_, Aen (by rw [Cn (by omega)]; omega), by omega, by omega⟩
 rw [Aen (by rw [Cn (by omega)]; omega), Bw (by omega) (by omega)]; omega
theorem Bg2 (b : List UInt8) (fl : UInt64) (h : 20 ≤ b.length) (hl : b.length < 4611686018427387904) (hf : fl.toNat < 4294967296) :
  Ap0 b fl = some (if Aj1 b = true then (0, 0, false) else (((Dw (part b 12 4) - 32 : Nat) : Int), ((Dw (part b 16 4) : Nat) : Int), b == Ai9 (Dw (part b 12 4) - 32) (Dw (part b 16 4)) fl.toNat)) := by
 have a1 : Ak3 b 12 4 = some (leU (part b 12 4), 0) := Bay b 12 4 (by omega) (by omega) (by omega) hl
 have a2 : Ak3 b 16 4 = some (leU (part b 16 4), 0) := Bay b 16 4 (by omega) (by omega) (by omega) hl
 rw [Ap0, a1, Aa]
 simp only
 rw [a2, Aa]
 simp only
 rw [Bn9 b h]
 cases hb : Aj1 b with
 | true => rfl
 | false =>
  obtain ⟨i1, i2, i3, i4⟩ := Bbk b h hb
  rw [i1, i2, Bd4 _ _ _ i3 i4 hf]
  rfl
theorem Bng (b : List UInt8) (h : 20 ≤ b.length) (hl : b.length < 4611686018427387904) :
  Vc b = some (if Aj1 b = true then (0, 0, false) else (((Dw (part b 12 4) - 32 : Nat) : Int), ((Dw (part b 16 4) : Nat) : Int), true)) := by
 have a1 : Br b 12 16 = some (part b 12 4) := Mv 12 4 (by omega)
 have a2 : Br b 16 20 = some (part b 16 4) := Mv 16 4 (by omega)
 rw [Vc, a1, Aa, Bdn _ (by rw [Cn (by omega)]; omega), Aa, a2, Aa, Bdn _ (by rw [Cn (by omega)]; omega), Aa, Bn9 b h]
 cases hb : Aj1 b with
 | true => rfl
 | false =>
  obtain ⟨i1, i2, i3, i4⟩ := Bbk b h hb
  rw [i1, i2]; rfl
def Oa (b : List UInt8) : Int × Int :=
 if ¬ (8 ≤ b.length ∧ b.take 8 = APE) then (0, 6) else if b.length < 32 then (0, 24) else
 if Aj1 b = true ∨ b.take 32 ≠ Ai9 (Dw (part b 12 4) - 32) (Dw (part b 16 4)) 2684354560 then (0, 12) else
 if b.length < Dw (part b 12 4) + 32 then (0, 24) else
 if (b.take (Dw (part b 12 4) + 32)).drop (Dw (part b 12 4)) ≠ Ai9 (Dw (part b 12 4) - 32) (Dw (part b 16 4)) 2147483648 then (0, 12) else (((Dw (part b 12 4) + 32 : Nat) : Int), 0)
theorem Bdq (b : List UInt8) : Aj1 (b.take 32) = Aj1 b := by rw [Aj1, Aj1, Ahh (by omega), Ahh (by omega)]
section
variable {b : List UInt8}
theorem fa1 (h : ¬ (8 ≤ b.length ∧ b.take 8 = APE)) : Oa b = (0, 6) := by rw [Oa, if_pos h]
theorem fa2 (h : 8 ≤ b.length ∧ b.take 8 = APE) (h2 : b.length < 32) : Oa b = (0, 24) := by rw [Oa, if_neg (fun h' => h' h), if_pos h2]
variable (h : 8 ≤ b.length ∧ b.take 8 = APE) (h2 : ¬ b.length < 32)
include h h2
theorem fa3 (h3 : Aj1 b = true) : Oa b = (0, 12) := by rw [Oa, if_neg (fun h' => h' h), if_neg h2, if_pos (.inl h3)]
theorem fa4 (h4 : b.take 32 ≠ Ai9 (Dw (part b 12 4) - 32) (Dw (part b 16 4)) 2684354560) : Oa b = (0, 12) := by rw [Oa, if_neg (fun h' => h' h), if_neg h2, if_pos (.inr h4)]
variable (h3 : Aj1 b = false) (h4 : b.take 32 = Ai9 (Dw (part b 12 4) - 32) (Dw (part b 16 4)) 2684354560)
include h3 h4
theorem fa5 (h5 : b.length < Dw (part b 12 4) + 32) : Oa b = (0, 24) := by
 rw [Oa, if_neg (fun h' => h' h), if_neg h2, if_neg (fun h' => h'.elim (fun e => by rw [h3] at e; cases e) fun e => e h4), if_pos h5]
theorem fa6 (h5 : ¬ b.length < Dw (part b 12 4) + 32) (h6 : (b.take (Dw (part b 12 4) + 32)).drop (Dw (part b 12 4)) ≠ Ai9 (Dw (part b 12 4) - 32) (Dw (part b 16 4)) 2147483648) : Oa b = (0, 12) := by
 rw [Oa, if_neg (fun h' => h' h), if_neg h2, if_neg (fun h' => h'.elim (fun e => by rw [h3] at e; cases e) fun e => e h4), if_neg h5, if_pos h6]
theorem fa7 (h5 : ¬ b.length < Dw (part b 12 4) + 32) (h6 : (b.take (Dw (part b 12 4) + 32)).drop (Dw (part b 12 4)) = Ai9 (Dw (part b 12 4) - 32) (Dw (part b 16 4)) 2147483648) : Oa b = (((Dw (part b 12 4) + 32 : Nat) : Int), 0) := by
 rw [Oa, if_neg (fun h' => h' h), if_neg h2, if_neg (fun h' => h'.elim (fun e => by rw [h3] at e; cases e) fun e => e h4), if_neg h5, if_neg (fun h' => h' h6)]
end
theorem Bgn (b : List UInt8) (hl : b.length < 4611686018427387904) : Ap6 b = some (Oa b) := by
 rw [Ap6, As9, Aa]
 by_cases hp : 8 ≤ b.length ∧ b.take 8 = APE
 ·rw [if_neg (by simpa [APE] using hp)]
  by_cases h32 : b.length < 32
  ·rw [if_pos (by rw [Af, Ac]; simp; omega), fa2 hp h32]
  ·have t := Bg2 (b.take 32) 2684354560 (by simp; omega) (by simp; omega) (by decide)
   rw [Bdq, Ahh (by omega), Ahh (by omega)] at t
   rw [if_neg (by rw [Af, Ac]; simp; omega), Fy (by omega) (by omega), Aa, show (32 : Int).toNat = 32 from rfl, t, Aa]
   cases hb : Aj1 b with
   | true => rw [fa3 hp h32 hb]; simp
   | false =>
    obtain ⟨i1, i2, i3, i4⟩ := Bbk b (by omega) hb
    have i5 : 32 ≤ Dw (part b 12 4) := by simp only [Aj1, decide_eq_false_iff_not] at hb; omega
    simp only [Bool.false_eq_true, if_false, false_or]
    by_cases c1 : b.take 32 = Ai9 (Dw (part b 12 4) - 32) (Dw (part b 16 4)) 2684354560
    ·have c1' : b.take 32 = Ai9 (Dw (part b 12 4) - 32) (Dw (part b 16 4)) (2684354560 : UInt64).toNat := c1
     rw [if_neg (by simpa using c1'), Ag (by omega) (by omega)]
     have e1 : ((Dw (part b 12 4) - 32 : Nat) : Int) + 64 = ((Dw (part b 12 4) + 32 : Nat) : Int) := by omega
     rw [e1]
     by_cases c2 : b.length < Dw (part b 12 4) + 32
     ·rw [if_pos (by rw [Af, Ac]; simp; omega), fa5 hp h32 hb c1 c2]
     ·rw [if_neg (by rw [Af, Ac]; simp; omega), Bw (by omega) (by omega), Aml (by omega) (by omega) (by omega), Aa, Bd4 _ _ _ i3 i4 (by decide), Aa, Kv, Aa]
      rw [show (((Dw (part b 12 4) + 32 : Nat) : Int)).toNat = Dw (part b 12 4) + 32 by omega, show (((Dw (part b 12 4) + 32 : Nat) : Int) - 32).toNat = Dw (part b 12 4) by omega]
      by_cases c3 : (b.take (Dw (part b 12 4) + 32)).drop (Dw (part b 12 4)) = Ai9 (Dw (part b 12 4) - 32) (Dw (part b 16 4)) 2147483648
      ·have c3' : (b.take (Dw (part b 12 4) + 32)).drop (Dw (part b 12 4)) = Ai9 (Dw (part b 12 4) - 32) (Dw (part b 16 4)) (2147483648 : UInt64).toNat := c3
       rw [if_neg (by simpa using c3'), fa7 hp h32 hb c1 c2 c3]
      ·have c3' : ¬ (b.take (Dw (part b 12 4) + 32)).drop (Dw (part b 12 4)) = Ai9 (Dw (part b 12 4) - 32) (Dw (part b 16 4)) (2147483648 : UInt64).toNat := c3
       rw [if_pos (by simpa using c3'), fa6 hp h32 hb c1 c2 c3]
    ·have c1' : ¬ b.take 32 = Ai9 (Dw (part b 12 4) - 32) (Dw (part b 16 4)) (2684354560 : UInt64).toNat := c1
     rw [if_pos (by simpa using c1'), fa4 hp h32 c1]
 ·rw [if_pos (by rw [Bool.not_eq_true', decide_eq_false_iff_not]; exact hp), fa1 hp]
theorem Bkd (b : List UInt8) (hl : b.length < 4611686018427387904) : Te b = some (Oa b) := by
 rw [Te, Tt]
 by_cases h8 : 8 ≤ b.length
 ·rw [if_neg (by rw [Af, Ac]; simp; omega), Fy (by omega) (by omega), Aa, show (8 : Int).toNat = 8 from rfl]
  by_cases ha : b.take 8 = APE
  ·have hp := And.intro h8 ha
   rw [if_neg (by simpa [APE] using ha), Uf, Uv]
   by_cases h32 : b.length < 32
   ·rw [if_pos (by rw [Af, Ac]; simp; omega), fa2 hp h32]
   ·have t := Bng (b.take 32) (by simp; omega) (by simp; omega)
    rw [Bdq, Ahh (by omega), Ahh (by omega)] at t
    rw [if_neg (by rw [Af, Ac]; simp; omega), Fy (by omega) (by omega), Aa, show (32 : Int).toNat = 32 from rfl, t, Aa]
    cases hb : Aj1 b with
    | true => rw [fa3 hp h32 hb]; simp
    | false =>
     obtain ⟨i1, i2, i3, i4⟩ := Bbk b (by omega) hb
     have i5 : 32 ≤ Dw (part b 12 4) := by simp only [Aj1, decide_eq_false_iff_not] at hb; omega
     simp only [Bool.false_eq_true, if_false, false_or, Aa, Bool.not_true]
     rw [Abt, Biv _ _ _ i3 i4 (by decide), Aa, Aa]
     by_cases c1 : b.take 32 = Ai9 (Dw (part b 12 4) - 32) (Dw (part b 16 4)) 2684354560
     ·have c1' : b.take 32 = Ai9 (Dw (part b 12 4) - 32) (Dw (part b 16 4)) (2684354560 : UInt64).toNat := c1
      rw [if_neg (by simpa using c1'), Ug, Adj, Ag (by omega) (by omega)]
      have e1 : 64 + ((Dw (part b 12 4) - 32 : Nat) : Int) = ((Dw (part b 12 4) + 32 : Nat) : Int) := by omega
      rw [e1]
      by_cases c2 : b.length < Dw (part b 12 4) + 32
      ·rw [if_pos (by rw [Af, Ac]; simp; omega), fa5 hp h32 hb c1 c2]
      ·rw [if_neg (by rw [Af, Ac]; simp; omega), Bw (by omega) (by omega), Aml (by omega) (by omega) (by omega), Aa, Ada, if_pos rfl, Biv _ _ _ i3 i4 (by decide), Aa, Aa]
       rw [show (((Dw (part b 12 4) + 32 : Nat) : Int)).toNat = Dw (part b 12 4) + 32 by omega, show (((Dw (part b 12 4) + 32 : Nat) : Int) - 32).toNat = Dw (part b 12 4) by omega]
       by_cases c3 : (b.take (Dw (part b 12 4) + 32)).drop (Dw (part b 12 4)) = Ai9 (Dw (part b 12 4) - 32) (Dw (part b 16 4)) 2147483648
       ·have c3' : (b.take (Dw (part b 12 4) + 32)).drop (Dw (part b 12 4)) = Ai9 (Dw (part b 12 4) - 32) (Dw (part b 16 4)) (2147483648 : UInt64).toNat := c3
        rw [if_neg (by simpa using c3'), fa7 hp h32 hb c1 c2 c3]
       ·have c3' : ¬ (b.take (Dw (part b 12 4) + 32)).drop (Dw (part b 12 4)) = Ai9 (Dw (part b 12 4) - 32) (Dw (part b 16 4)) (2147483648 : UInt64).toNat := c3
        rw [if_pos (by simpa using c3'), fa6 hp h32 hb c1 c2 c3]
     ·have c1' : ¬ b.take 32 = Ai9 (Dw (part b 12 4) - 32) (Dw (part b 16 4)) (2684354560 : UInt64).toNat := c1
      rw [if_pos (by simpa using c1'), fa4 hp h32 c1]
  ·rw [if_pos (by simpa [APE] using ha), fa1 (fun h => ha h.2)]
 ·rw [if_pos (by rw [Af, Ac]; simp; omega), fa1 (fun h => h8 h.1)]
theorem Bk9 {b : List UInt8} {n : Int} (h : Oa b = (n, 0)) : 64 ≤ n ∧ n ≤ b.length := by
 unfold Oa at h
 split at h; · simp at h
 split at h; · simp at h
 split at h; · simp at h
 rename_i hb
 split at h; · simp at h
 split at h; · simp at h
 simp only [Prod.mk.injEq, and_true] at h
 have hb' : ¬ Aj1 b = true := fun e => hb (.inl e)
 simp only [Aj1, decide_eq_true_eq] at hb'
 omega
end Go.Pl
set_option linter.unusedVariables false
set_option linter.unusedSimpArgs false
namespace Go.Pl
open Go Go.Lv
def Dj (b : List UInt8) : Int × Int := if (Ajl b).2 ≠ 6 then Ajl b else Oa b
theorem size_eq (b : List UInt8) (hl : b.length < 4611686018427387904) : Wn b = some (Dj b) := by
 rw [Wn, Blo b hl, Aa, Bgn b hl]
 by_cases h : (Ajl b).2 = 6
 ·simp [Dj, h, Al]
 ·simp [Dj, h, Al]
theorem Ayy {b : List UInt8} {n : Int} (h : Dj b = (n, 0)) : 10 ≤ n ∧ n ≤ b.length := by
 unfold Dj at h
 split at h
 ·have := Bod h; omega
 ·have := Bk9 h; omega
def Cc (b : List UInt8) : Nat → Nat → List Int × Int
 | 0, _ => ([], 6)
 | j + 1, p => if (Dj (b.drop p)).2 = 6 then ([], 0) else if (Dj (b.drop p)).2 ≠ 0 then ([], (Dj (b.drop p)).2) else
  if 4000 < (p : Int) + (Dj (b.drop p)).1 then ([], 4) else
  if (Cc b j (p + (Dj (b.drop p)).1.toNat)).2 = 0 then ((Dj (b.drop p)).1 :: (Cc b j (p + (Dj (b.drop p)).1.toNat)).1, 0) else ([], (Cc b j (p + (Dj (b.drop p)).1.toNat)).2)
theorem At2 (b : List UInt8) : ∀ (j p : Nat), p ≤ b.length → p ≤ 4000 → (Cc b j p).2 = 0 → (∀ x ∈ (Cc b j p).1, 10 ≤ x) ∧ (p : Int) + (Cc b j p).1.sum ≤ b.length ∧ (p : Int) + (Cc b j p).1.sum ≤ 4000
 | 0, p, _, _, h => by simp [Cc] at h
 | j + 1, p, hp, hq, h => by
  rw [Cc] at h ⊢
  split at h
  ·rename_i h6; rw [if_pos h6]; simp; omega
  ·rename_i h6
   split at h
   ·rename_i h0; exact absurd h h0
   ·rename_i h0
    rw [if_neg h6, if_neg h0]
    have hz : Dj (b.drop p) = ((Dj (b.drop p)).1, 0) := by rw [Prod.ext_iff]; exact ⟨rfl, Classical.not_not.1 h0⟩
    have hs := Ayy hz
    rw [List.length_drop] at hs
    split at h
    ·simp at h
    ·rename_i h4
     rw [if_neg h4]
     split at h
     ·rename_i h00
      rw [if_pos h00]
      obtain ⟨i1, i2, i3⟩ := At2 b j _ (by omega) (by omega) h00
      refine ⟨fun x hx => ?_, ?_, ?_⟩
      ·rcases List.mem_cons.1 hx with rfl | hx
       ·exact hs.1
       ·exact i1 x hx
      ·simp only [List.sum_cons]; omega
      ·simp only [List.sum_cons]; omega
     ·rename_i h00; exact absurd h h00
def Bgr (b : List UInt8) (j p : Nat) : Int × Int := if (Cc b j p).2 = 0 then ((p : Int) + (Cc b j p).1.sum, 0) else (0, (Cc b j p).2)
theorem Ayi (b : List UInt8) (hl : b.length < 4611686018427387904) : ∀ (j p q : Nat), p ≤ b.length → p ≤ 4000 → b.length - p < j → j ≤ q → To b q (p : Int) = some (Bgr b j p)
 | 0, p, q, _, _, h, _ => by omega
 | j + 1, p, q, hp, hp4, hj, hq => by
  obtain ⟨q, rfl⟩ : ∃ k, q = k + 1 := ⟨q - 1, by omega⟩
  rw [To, Jf (by omega) (by omega), Aa, Int.toNat_natCast, size_eq _ (by simp; omega), Aa, Az, Az, Al, Bgr]
  by_cases h6 : (Dj (b.drop p)).2 = 6
  ·rw [if_pos (by simpa using h6)]
   have : Cc b (j + 1) p = ([], 0) := by rw [Cc, if_pos h6]
   rw [this]; simp
  ·rw [if_neg (by simpa using h6)]
   by_cases h0 : (Dj (b.drop p)).2 = 0
   ·have hz : Dj (b.drop p) = ((Dj (b.drop p)).1, 0) := by rw [Prod.ext_iff]; exact ⟨rfl, h0⟩
    have hs := Ayy hz
    rw [List.length_drop] at hs
    rw [Ag (by omega) (by omega), Ap]
    by_cases h4 : 4000 < (p : Int) + (Dj (b.drop p)).1
    ·rw [if_pos (by simp [h0]; omega)]
     have : Cc b (j + 1) p = ([], 4) := by rw [Cc, if_neg h6, if_neg (fun h => h h0), if_pos h4]
     rw [this]; simp
    ·rw [if_neg (by simp [h0]; omega), if_neg (by simpa using h0)]
     have ih := Ayi b hl j (p + (Dj (b.drop p)).1.toNat) q (by omega) (by omega) (by omega) (by omega)
     rw [show (p : Int) + (Dj (b.drop p)).1 = ((p + (Dj (b.drop p)).1.toNat : Nat) : Int) by omega, ih, Bgr]
     have : Cc b (j + 1) p = if (Cc b j (p + (Dj (b.drop p)).1.toNat)).2 = 0 then ((Dj (b.drop p)).1 :: (Cc b j (p + (Dj (b.drop p)).1.toNat)).1, 0) else ([], (Cc b j (p + (Dj (b.drop p)).1.toNat)).2) := by
      rw [Cc, if_neg h6, if_neg (fun h => h h0), if_neg h4]
     rw [this]
     by_cases hr : (Cc b j (p + (Dj (b.drop p)).1.toNat)).2 = 0
     ·simp only [hr, if_true, List.sum_cons]; congr 2; omega
     ·simp only [hr, if_false]
   ·rw [if_neg (by simp [h0]), if_pos (by simpa using h0)]
    have : Cc b (j + 1) p = ([], (Dj (b.drop p)).2) := by rw [Cc, if_neg h6, if_pos h0]
    rw [this]; simp [h0]
def Bpj (b : List UInt8) (j p : Nat) (xs : List Int) : List Int × Int := if (Cc b j p).2 = 0 then (xs ++ (Cc b j p).1, 0) else ([], (Cc b j p).2)
theorem Bmo (bk : Int → List Int → Option (List Int × Int)) (b : List UInt8) (p : Nat) (hp : p ≤ b.length) (xs : List Int) (hx : xs.length ≤ 4000) (hl : b.length < 4611686018427387904) : Mg (Ib bk b) b (p : Int) xs = Ib bk b (p : Int) xs (Dj (b.drop p)).1 (Dj (b.drop p)).2 := by
 have hf := Bkd (b.drop p) (by simp; omega)
 rw [Mg, Jf (by omega) (by omega), Aa, Int.toNat_natCast, Bnh _ (by simp; omega), Aa]
 by_cases h : (Ajl (b.drop p)).2 = 6
 ·simp [Dj, h, Az, hf]
 ·simp [Dj, h, Az]
theorem Bas (b : List UInt8) (hl : b.length < 4611686018427387904) : ∀ (j p q : Nat) (xs : List Int), p ≤ b.length → p ≤ 4000 → b.length - p < j → j ≤ q → xs.length ≤ p → Ie b q (p : Int) xs = some (Bpj b j p xs)
 | 0, p, q, _, _, _, h, _, _ => by omega
 | j + 1, p, q, xs, hp, hp4, hj, hq, hx => by
  obtain ⟨q, rfl⟩ : ∃ k, q = k + 1 := ⟨q - 1, by omega⟩
  rw [Ie, Bmo _ b p hp xs (by omega) hl, Ib, Adn, Az, Al, Bpj]
  by_cases h6 : (Dj (b.drop p)).2 = 6
  ·rw [if_pos (by simpa using h6)]
   have : Cc b (j + 1) p = ([], 0) := by rw [Cc, if_pos h6]
   rw [this]; simp
  ·rw [if_neg (by simpa using h6)]
   by_cases h0 : (Dj (b.drop p)).2 = 0
   ·have hz : Dj (b.drop p) = ((Dj (b.drop p)).1, 0) := by rw [Prod.ext_iff]; exact ⟨rfl, h0⟩
    have hs := Ayy hz
    rw [List.length_drop] at hs
    rw [if_neg (by simpa using h0), Ag (by omega) (by omega), Ap]
    by_cases h4 : 4000 < (p : Int) + (Dj (b.drop p)).1
    ·rw [if_pos (by simp; omega)]
     have : Cc b (j + 1) p = ([], 4) := by rw [Cc, if_neg h6, if_neg (fun h => h h0), if_pos h4]
     rw [this]; simp
    ·rw [if_neg (by simp; omega), Eu (by simp; omega), Aa]
     have ih := Bas b hl j (p + (Dj (b.drop p)).1.toNat) q (xs ++ [(Dj (b.drop p)).1]) (by omega) (by omega) (by omega) (by omega) (by simp; omega)
     rw [show (p : Int) + (Dj (b.drop p)).1 = ((p + (Dj (b.drop p)).1.toNat : Nat) : Int) by omega, ih, Bpj]
     have : Cc b (j + 1) p = if (Cc b j (p + (Dj (b.drop p)).1.toNat)).2 = 0 then ((Dj (b.drop p)).1 :: (Cc b j (p + (Dj (b.drop p)).1.toNat)).1, 0) else ([], (Cc b j (p + (Dj (b.drop p)).1.toNat)).2) := by
      rw [Cc, if_neg h6, if_neg (fun h => h h0), if_neg h4]
     rw [this]
     by_cases hr : (Cc b j (p + (Dj (b.drop p)).1.toNat)).2 = 0
     ·simp only [hr, if_true]; simp
     ·simp only [hr, if_false]
   ·rw [if_pos (by simpa using h0)]
    have : Cc b (j + 1) p = ([], (Dj (b.drop p)).2) := by rw [Cc, if_neg h6, if_pos h0]
    rw [this]; simp [h0]
theorem Av0 : ∀ {l : List Int}, (∀ x ∈ l, 10 ≤ x) → 0 ≤ l.sum ∧ (l.length : Int) ≤ l.sum
 | [], _ => by simp
 | x :: l, h => by
  have h1 := h x List.mem_cons_self
  have h2 := Av0 (l := l) fun y hy => h y (List.mem_cons_of_mem _ hy)
  simp only [List.sum_cons, List.length_cons]; omega
theorem Ay6 (r : Int) (l : List Int) (hl : l.length ≤ 4000) (hx : ∀ x ∈ l, 10 ≤ x) : ∀ (j i q : Nat) (n : Int), i + j = l.length → j < q → 0 ≤ n → n + (l.drop i).sum ≤ 4000 → Fo r l q n (i : Int) = some (n + (l.drop i).sum, r)
 | 0, i, q + 1, n, hi, _, _, _ => by
  rw [Fo, Ls, if_neg (by rw [Af, Ac]; simp; omega), show i = l.length by omega, List.drop_length]
  simp [Uc, Adl]
 | j + 1, i, q + 1, n, hi, hq, hn, hs => by
  have hlt : i < l.length := by omega
  rw [drop_cons hlt, List.sum_cons] at hs ⊢
  have h1 := hx l[i] (List.getElem_mem hlt)
  have h2 := Av0 (l := l.drop (i + 1)) fun y hy => hx y (List.mem_of_mem_drop hy)
  rw [Fo, Ls, if_pos (by rw [Af, Ac]; simp; omega), Cl hlt, Aa, Aa, Ag (by omega) (by omega), Ag (by omega) (by omega)]
  have ih := Ay6 r l hl hx j (i + 1) q (n + l[i]) (by omega) (by omega) (by omega) (by omega)
  rw [show ((i : Int) + 1) = ((i + 1 : Nat) : Int) by omega, ih]
  congr 2; omega
def Km (b : List UInt8) : Int × Int := Bgr b (b.length + 1) 0
theorem Av5 (b : List UInt8) (hl : b.length < 4611686018427387904) : Rf b = some (Km b) := by
 have := Ayi b hl (b.length + 1) 0 Ay (by omega) (by omega) (by omega) (by have := As; omega)
 exact this
theorem Bcf (b : List UInt8) (hl : b.length < 4611686018427387904) : Sg b = some (Km b) := by
 have h := Bas b hl (b.length + 1) 0 Ay [] (by omega) (by omega) (by omega) (by have := As; omega) (by simp)
 have h' : Aam b = some (Bpj b (b.length + 1) 0 []) := h
 rw [Sg, Us, h', Aa, Km, Bgr, Bpj]
 have ho := At2 b (b.length + 1) 0 (by omega) (by omega)
 by_cases h0 : (Cc b (b.length + 1) 0).2 = 0
 ·obtain ⟨i1, i2, i3⟩ := ho h0
  have hp := Av0 i1
  simp only [h0, if_true, List.nil_append]
  have := Ay6 0 (Cc b (b.length + 1) 0).1 (by omega) i1 (Cc b (b.length + 1) 0).1.length 0 Ay 0 (by omega) (by have := As; omega) (by omega) (by simpa using i3)
  simpa [Ly] using this
 ·simp only [h0, if_false]
  have := Ay6 (Cc b (b.length + 1) 0).2 [] (by simp) (by simp) 0 0 Ay 0 (by simp) (by have := As; omega) (by omega) (by simp)
  simpa [Ly] using this
theorem Bak {b : List UInt8} (h : (Km b).2 = 0) : 0 ≤ (Km b).1 ∧ (Km b).1 ≤ b.length ∧ (Km b).1 ≤ 4000 := by
 unfold Km Bgr at h ⊢
 split at h
 ·rename_i h0
  rw [if_pos h0]
  obtain ⟨i1, i2, i3⟩ := At2 b (b.length + 1) 0 (by omega) (by omega) h0
  have hp := Av0 i1
  exact ⟨by simp; omega, i2, i3⟩
 ·rename_i h0; exact absurd h h0
end Go.Pl
set_option linter.unusedVariables false
set_option linter.unusedSimpArgs false
namespace Go.Pl
open Go Go.Lv
def longN (r : Nat) : Nat := max 1 (256 * r / 245)
theorem Ahl (r : Nat) : 1 ≤ longN r := Nat.le_max_left _ _
theorem Atk {r : Nat} (h : r ≤ 1048576) : longN r ≤ 1100000 := by unfold longN; omega
theorem Bej {r : Nat} (h : r ≤ 1048576) : An1 (1 : Int) (Bq (Bb (256 : Int) (r : Int)) (245 : Int)) = (longN r : Int) := by
 rw [Gt (by omega) (by omega), Af1, Int.tdiv_eq_ediv_of_nonneg (by omega), Bu (by omega) (by omega), Bgj, longN]; omega
def framesL (g n : Nat) : List Int := List.replicate ((n - 1) / g) (g : Int) ++ [((n - (n - 1) / g * g : Nat) : Int)]
theorem Au8 (g n : Nat) : (framesL g n).length = (n - 1) / g + 1 := by simp [framesL]
theorem Azh {g n : Nat} (h : n ≤ g) (h1 : 1 ≤ n) : framesL g n = [(n : Int)] := by
 rw [framesL, Nat.div_eq_of_lt (by omega)]; simp
theorem Bfz {g n : Nat} (hg : 1 ≤ g) (h : g < n) : framesL g n = (g : Int) :: framesL g (n - g) := by
 have e : (n - 1) / g = (n - g - 1) / g + 1 := by rw [← Nat.add_div_right _ (by omega)]; congr 1; omega
 rw [framesL, framesL, e, List.replicate_succ, List.cons_append]
 congr 4
 have := Nat.div_mul_le_self (n - g - 1) g
 rw [Nat.add_mul, Nat.one_mul]; omega
theorem Atd {g n : Nat} (hg : 1 ≤ g) (h1 : 1 ≤ n) : (n + g - 1) / g = (n - 1) / g + 1 := by
 rw [← Nat.add_div_right _ (by omega)]; congr 1; omega
theorem Atn {r : Nat} (h1 : 1 ≤ r) (h : r ≤ 1048576) : Nf (r : Int) = some ((longN r : Int), 0) := by
 rw [Nf, if_neg (by simp [Af, Ap]; omega), Bej h]
theorem Bpc {r : Nat} (h : r ≤ 1048576) : Nd (r : Int) = some (longN r : Int) := by rw [Nd, Bej h]
theorem Axu {r n : Nat} (h1 : 1 ≤ r) (h : r ≤ 1048576) (n1 : 1 ≤ n) (n2 : n ≤ 4000) : Zf (r : Int) (n : Int) = some (if 1000 < (n - 1) / longN r + 1 then (0, 4) else ((((n - 1) / longN r + 1 : Nat) : Int), 0)) := by
 have hp := Ahl r
 have hl := Atk h
 have e : Bq (Ao (Ae (n : Int) (longN r : Int)) (1 : Int)) (longN r : Int) = (((n - 1) / longN r + 1 : Nat) : Int) := by
  have : (n + longN r - 1) / longN r ≤ n + longN r - 1 := Nat.div_le_self _ _
  rw [Ag (by omega) (by omega), Bw (by omega) (by omega), Af1, Int.tdiv_eq_ediv_of_nonneg (by omega), show (n : Int) + (longN r : Int) - 1 = ((n + longN r - 1 : Nat) : Int) by omega, ← Int.natCast_ediv, Atd hp n1]
  rw [Atd hp n1] at this
  generalize (n - 1) / longN r = k at *
  exact Bu (by omega) (by omega)
 rw [Zf, Atn h1 h, Aa]
 simp only
 rw [if_neg (by rw [Al]; simp), if_neg (by simp [Af, Ap]; omega), Ca (by rw [Al]; simp; omega), Aa, e]
 by_cases hk : 1000 < (n - 1) / longN r + 1
 ·rw [if_pos (by rw [Ap]; simp; omega), if_pos hk]
 ·rw [if_neg (by rw [Ap]; simp; omega), if_neg hk]
theorem Axc {r : Nat} (h : r ≤ 1048576) : ∀ (j n q : Nat) (acc : List Int), n ≤ 4000 → n ≤ j → j < q → acc.length + n ≤ 10000 → Cq (r : Int) q (n : Int) acc = some (acc ++ (if n = 0 then [] else framesL (longN r) n))
 | 0, n, q + 1, acc, hn, hj, hq, ha => by
  obtain rfl : n = 0 := by omega
  rw [Cq, Fk, if_neg (by rw [Ap]; simp)]
  simp [Hx, Lo]
 | j + 1, n, q + 1, acc, hn, hj, hq, ha => by
  have hp := Ahl r
  have hl := Atk h
  by_cases h0 : n = 0
  ·subst h0
   rw [Cq, Fk, if_neg (by rw [Ap]; simp)]
   simp [Hx, Lo]
  ·rw [Cq, Fk, if_pos (by rw [Ap]; simp; omega), Bpc h, Aa, Eu (by simp; omega), Aa, Aa, Bw (by omega) (by omega), Akv]
   by_cases hs : n ≤ longN r
   ·rw [show min (n : Int) (longN r : Int) = (n : Int) by omega, if_neg h0, Azh hs (by omega)]
    have hz : ∃ k, q = k + 1 := ⟨q - 1, by omega⟩
    obtain ⟨q, rfl⟩ := hz
    rw [Cq, Fk, if_neg (by rw [Ap]; simp; omega)]
    simp [Hx, Lo]
   ·rw [show min (n : Int) (longN r : Int) = (longN r : Int) by omega, show (n : Int) - (longN r : Int) = ((n - longN r : Nat) : Int) by omega, Axc h j (n - longN r) q _ (by omega) (by omega) (by omega) (by simp; omega), if_neg (by omega), if_neg h0, Bfz hp (show longN r < n by omega)]
    simp
theorem Ax6 {r n : Nat} (h : r ≤ 1048576) (n1 : 1 ≤ n) (n2 : n ≤ 4000) : If (r : Int) (n : Int) = some (framesL (longN r) n) := by
 have := Axc h n n Ay [] n2 (Nat.le_refl _) (by have := As; omega) (by simp; omega)
 rw [If, Ul, Um, this, if_neg (by omega)]; rfl
theorem mul_one (m : Nat) (h : m ≤ 100000) : Aem (1 : UInt64) (UInt64.ofNat m) = some (0, UInt64.ofNat m) := by
 have y1 : (UInt64.ofNat m).toNat = m := Ajf (by omega)
 have s1 : Cd (1 : UInt64) (GI.toZ (32 : UInt64)).toNat = 0 := by decide
 have s2 : Cd (UInt64.ofNat m) (GI.toZ (32 : UInt64)).toNat = 0 := by
  apply UInt64.toNat_inj.1
  rw [Afs, y1]
  exact Nat.div_eq_of_lt (Nat.lt_of_le_of_lt h (by decide))
 have s0 : Cd (0 : UInt64) (GI.toZ (32 : UInt64)).toNat = 0 := by decide
 have a1 : Ik (1 : UInt64) (4294967295 : UInt64) = 1 := by decide
 have a0 : Ik (0 : UInt64) (4294967295 : UInt64) = 0 := by decide
 have a2 : Ik (UInt64.ofNat m) (4294967295 : UInt64) = UInt64.ofNat m := by
  apply UInt64.toNat_inj.1
  rw [Axd, UInt64.toNat_and, y1]
  show m &&& (2 ^ 32 - 1) = m
  rw [Nat.and_two_pow_sub_one_eq_mod, Nat.mod_eq_of_lt (by omega)]
 have m1 : ∀ x : UInt64, Bb 1 x = x := fun x => by rw [Aff, UInt64.one_mul]
 have m0 : ∀ x : UInt64, Bb 0 x = 0 := fun x => by rw [Aff, UInt64.zero_mul]
 have p0 : ∀ x : UInt64, Ae 0 x = x := fun x => by rw [Afn, UInt64.zero_add]
 have p1 : ∀ x : UInt64, Ae x 0 = x := fun x => by rw [Afn, UInt64.add_zero]
 rw [Aem, Aga]
 simp only [s1, s2, a1, a2, m1, m0, p0, p1, s0, a0, Aa]
theorem Aul (v : Int) (m : Nat) (hm : m ≤ 100000) : ∀ (j n q : Nat), 1 ≤ n → n ≤ m → m - n ≤ j → j < q → Dg q (n : Int) (List.replicate n v ++ List.replicate (m - n) 0) = some (List.replicate m v)
 | j, n, q + 1, hn, hnm, hj, hq => by
  have hlen : Ac (List.replicate n v ++ List.replicate (m - n) 0) = (m : Int) := by simp [Ac]; omega
  rw [Dg, Fv, hlen]
  by_cases h : n < m
  ·obtain ⟨j, rfl⟩ : ∃ k, j = k + 1 := ⟨j - 1, by omega⟩
   rw [if_pos (by rw [Af]; simp; omega)]
   have v1 : vwI (m : Int) (n : Int) (m : Int) = some () := by rw [vwI, Ca]; simp; omega
   have v2 : vwI (m : Int) (0 : Int) (n : Int) = some () := by rw [vwI, Ca]; simp; omega
   have e1 : Ak6 (List.replicate n v ++ List.replicate (m - n) 0) (0 : Int) ((n : Int) - 0) = List.replicate n v := by
    simp [Ak6]
   rw [v1, Aa, v2, Aa, e1]
   have e2 : Ah0 ((m : Int) - (n : Int)) (List.replicate n v).length = ((min n (m - n) : Nat) : Int) := by
    rw [Ah0, List.length_replicate]; split <;> omega
   have e3 : Tv (List.replicate n v ++ List.replicate (m - n) 0) (n : Int) ((m : Int) - (n : Int)) (List.replicate n v) = List.replicate (n + min n (m - n)) v ++ List.replicate (m - (n + min n (m - n))) 0 := by
    have t1 : ((m : Int) - (n : Int)).toNat = m - n := by omega
    have t2 : (List.replicate n v ++ List.replicate (m - n) (0 : Int)).take n = List.replicate n v := by simp
    rw [Tv, t1, Int.toNat_natCast, t2, List.take_replicate, List.length_replicate, ← List.append_assoc, List.replicate_append_replicate, List.drop_append, List.length_replicate, Nat.min_comm (m - n) n]
    simp only [List.drop_replicate]
    rw [show n - (n + min n (m - n)) = 0 by omega, List.replicate_zero, List.nil_append, show m - n - (n + min n (m - n) - n) = m - (n + min n (m - n)) by omega]
   rw [e2, e3, Ag (by omega) (by omega), show (n : Int) + ((min n (m - n) : Nat) : Int) = ((n + min n (m - n) : Nat) : Int) by omega]
   exact Aul v m hm j (n + min n (m - n)) q (by omega) (by omega) (by omega) (by omega)
  ·rw [if_neg (by rw [Af]; simp; omega)]
   obtain rfl : n = m := by omega
   simp [Hw, Mh]
theorem Bke (v : Int) (m : Nat) (hm : m ≤ 100000) : Mf [v] (m : Int) = some (List.replicate m v) := by
 have y1 : (UInt64.ofNat m).toNat = m := Ajf (by omega)
 have c1 : (Ad (Ac [v]) : UInt64) = 1 := by rfl
 have c2 : (Ad (m : Int) : UInt64) = UInt64.ofNat m := Aa9 m
 have c3 : (Ad (UInt64.ofNat m) : Int) = (m : Int) := by rw [Atv (by omega), y1]
 rw [Mf, Og, if_neg (by rw [Af]; simp), Od, Oq, c1, c2, mul_one m hm, Aa]
 simp only
 rw [if_neg (by rw [Ajy, Ajy, y1]; simp; show m ≤ 9223372036854775807; omega), Ok, Ot, c3, Awr (by omega) (by omega), Aa, Ca (by rw [Az]; simp), Aa, Oo, Int.toNat_natCast]
 by_cases h0 : m = 0
 ·subst h0
  have hF : Ay = (Ay - 1) + 1 := by have := As; omega
  rw [hF, Dg, Fv]
  simp [Ac, Axn, Ah0, Af, Hw, Mh]
 ·have := Aul v m hm m 1 Ay (by omega) (by omega) (by omega) (by have := As; omega)
  have e1 : Ah0 (Ac (List.replicate m (0 : Int))) [v].length = ((1 : Nat) : Int) := by simp [Ah0, Ac]; omega
  have e2 : Axn (List.replicate m (0 : Int)) [v] = List.replicate 1 v ++ List.replicate (m - 1) 0 := by
   obtain ⟨k, rfl⟩ : ∃ k, m = k + 1 := ⟨m - 1, by omega⟩
   simp [Axn]
  rw [e1, e2, this]
theorem Blw (l m : List Int) (h : l.length + m.length ≤ 1000000) : Lt [l, m] = some (l ++ m) := by
 have hF : Ay = (Ay - 3) + 1 + 1 + 1 := by have := As; omega
 rw [Lt, Oi, Oy]
 have g0 : Aj [l, m] (0 : Int) = some l := rfl
 have g1 : Aj [l, m] (1 : Int) = some m := rfl
 have l2 : Ac [l, m] = 2 := rfl
 have h3 : Hu [l, m] [] = some (l ++ m) := by
  rw [Hu, Ml, Mn, hF, Cz, Er, l2, if_pos (by decide), g0, Aa, Eu (by simp; omega), Aa, List.nil_append, show Ae (0 : Int) 1 = 1 by decide,
   Cz, Er, l2, if_pos (by decide), g1, Aa, Eu (by omega), Aa, show Ae (1 : Int) 1 = 2 by decide, Cz, Er, l2, if_neg (by decide)]
  rfl
 rw [hF, Dh, Fs, l2, if_pos (by decide), g0, Aa, Ag (by unfold Ac; omega) (by unfold Ac; omega), if_neg (by rw [Af, Ac]; simp), show Ae (0 : Int) 1 = 1 by decide,
  Dh, Fs, l2, if_pos (by decide), g1, Aa, Ag (by unfold Ac; omega) (by unfold Ac; omega), if_neg (by rw [Af, Ac, Ac]; simp; omega), show Ae (1 : Int) 1 = 2 by decide,
  Dh, Fs, l2, if_neg (by decide), Mo, Mp, if_neg (by rw [Af, Ac, Ac]; simp; omega), Mk, Mm]
 have z : Ao (0 : Int) 0 = 0 := by decide
 have n0 : (0 : Int) + Ac l + Ac m = ((l.length + m.length : Nat) : Int) := by simp [Ac]
 rw [z, n0, Bw (by omega) (by omega), Int.sub_zero]
 by_cases hp : 0 < l.length + m.length
 ·rw [if_pos (by rw [Ap]; simp; omega), show vwI (0 : Int) 0 0 = some () from rfl, Aa, Awr (by omega) (by omega), Aa, Eu (by simp; omega), Aa]
  rw [show vwI (Ac ([] ++ List.replicate ((l.length + m.length : Nat) : Int).toNat (0 : Int))) 0 0 = some () by rw [vwI, Ca]; simp [Ac]; omega, Aa]
  simp only [Ak6, Int.sub_self, Int.toNat_zero, List.take_zero]
  exact h3
 ·rw [if_neg (by rw [Ap]; simp; omega)]; exact h3
theorem Bna {r n : Nat} (h1 : 1 ≤ r) (h : r ≤ 1048576) (n1 : 1 ≤ n) (n2 : n ≤ 4000) (hk : (n - 1) / longN r + 1 ≤ 1000) : Aju (r : Int) (n : Int) = some (framesL (longN r) n, 0) := by
 have hp := Ahl r
 have hl := Atk h
 have hd := Nat.div_mul_le_self (n - 1) (longN r)
 rw [Aju, Axu h1 h n1 n2, if_neg (by omega), Aa]
 simp only
 rw [if_neg (by rw [Al]; simp), Atn h1 h, Aa]
 simp only
 rw [framesL]
 generalize (n - 1) / longN r = k at *
 have e1 : Ao ((k + 1 : Nat) : Int) 1 = (k : Int) := by rw [Bw (by omega) (by omega)]; omega
 have e2 : (k : Int) * (longN r : Int) = ((k * longN r : Nat) : Int) := by simp
 rw [e1, Bke _ _ (by omega), Aa, Gt (by rw [e2]; omega) (by rw [e2]; omega), e2, Bw (by omega) (by omega), Aht, Blw _ _ (by simp; omega), Aa, Aa, show (n : Int) - ((k * longN r : Nat) : Int) = ((n - k * longN r : Nat) : Int) by omega]
end Go.Pl
set_option linter.unusedVariables false
set_option linter.unusedSimpArgs false
namespace Go.Pl
open Go Go.Lv
def shapeB (f c w r n : Nat) : Bool := decide ((f = 1 ∨ f = 2) ∧ (1 ≤ c ∧ c ≤ 6) ∧ (w = 8 ∨ w = 16 ∨ w = 24) ∧ (1 ≤ r ∧ r ≤ 1048576) ∧ 1 ≤ n)
def fitB (c r n : Nat) : Bool := decide (n ≤ 4000 / c ∧ (n - 1) / longN r + 1 ≤ 1000)
theorem Aor (f c w r n : Nat) : Oh (f : Int) (c : Int) (w : Int) (r : Int) (n : Int) = some (shapeB f c w r n) := by
 have e2 : Kx (f : Int) (c : Int) (w : Int) (r : Int) (n : Int) = some (decide ((f = 1 ∨ f = 2) ∧ (1 ≤ c ∧ c ≤ 6) ∧ (1 ≤ r ∧ r ≤ 1048576) ∧ 1 ≤ n)) := by
  rw [Kx, Aef]
  congr 1
  rw [Bool.eq_iff_iff]
  simp only [Az, Ap, Xx, Bool.and_eq_true, Bool.or_eq_true, beq_iff_eq, decide_eq_true_eq]
  omega
 have g : ∀ k : Nat, geq (w : Int) (k : Int) = decide (w = k) := fun k => by rw [Az, Bool.eq_iff_iff]; simp; omega
 have g8 : geq (w : Int) (8 : Int) = decide (w = 8) := g 8
 have g16 : geq (w : Int) (16 : Int) = decide (w = 16) := g 16
 have g24 : geq (w : Int) (24 : Int) = decide (w = 24) := g 24
 rw [Oh, Xs, e2, g8, g16, g24, shapeB]
 by_cases h8 : w = 8
 ·subst h8; simp
 ·by_cases h16 : w = 16
  ·subst h16; simp
  ·by_cases h24 : w = 24
   ·subst h24; simp
   ·simp [h8, h16, h24]
theorem Aq8 (f c w r n : Nat) : Ew (f : Int) (c : Int) (w : Int) (r : Int) (n : Int) = some (shapeB f c w r n) := by
 rw [Ew, shapeB]
 simp only [Az, Ci, Xx, Bool.and_eq_true, Bool.or_eq_true, beq_iff_eq, decide_eq_true_eq, Bool.false_and]
 split
 ·rename_i h
  congr 1
  rw [Bool.eq_iff_iff]
  simp only [Bool.and_eq_true, Bool.or_eq_true, beq_iff_eq, decide_eq_true_eq]
  omega
 ·rename_i h
  congr 1
  symm
  rw [decide_eq_false_iff_not]
  omega
theorem Bs2 {c : Nat} (h : 1 ≤ c) : Bq (4000 : Int) (c : Int) = ((4000 / c : Nat) : Int) := by
 have : 4000 / c ≤ 4000 := Nat.div_le_self _ _
 rw [Af1, Int.tdiv_eq_ediv_of_nonneg (by omega), show (4000 : Int) = ((4000 : Nat) : Int) from rfl, ← Int.natCast_ediv]
 generalize 4000 / c = k at *
 exact Bu (by omega) (by omega)
theorem Ats {f c w r n : Nat} (h : shapeB f c w r n = true) : Ae6 (f : Int) (c : Int) (w : Int) (r : Int) (n : Int) = some (fitB c r n) := by
 simp only [shapeB, decide_eq_true_eq] at h
 have hd : 4000 / c ≤ 4000 := Nat.div_le_self _ _
 rw [Ae6, Ca (by rw [Al]; simp; omega), Aa, Bs2 (by omega), fitB]
 generalize 4000 / c = m at *
 by_cases h1 : n ≤ m
 ·rw [if_neg (by rw [Ap]; simp; omega), Axu (by omega) (by omega) (by omega) (by omega), Aa]
  generalize (n - 1) / longN r + 1 = k
  by_cases h2 : 1000 < k
  ·rw [if_pos h2]
   simp [Az, Xx]
   omega
  ·rw [if_neg h2]
   simp [Az, Xx, h1]
   omega
 ·rw [if_pos (by rw [Ap]; simp; omega)]
  simp [h1]
theorem Ayc {f c w r n : Nat} (h : shapeB f c w r n = true) : Gu (f : Int) (c : Int) (w : Int) (r : Int) (n : Int) = some (!fitB c r n) := by
 simp only [shapeB, decide_eq_true_eq] at h
 have hd : 4000 / c ≤ 4000 := Nat.div_le_self _ _
 rw [Gu, Ca (by rw [Al]; simp; omega), Aa, Bs2 (by omega), fitB]
 generalize 4000 / c = m at *
 by_cases h1 : n ≤ m
 ·rw [if_neg (by rw [Ap]; simp; omega), Ax6 (by omega) (by omega) (by omega), Aa, Ac, Au8]
  generalize (n - 1) / longN r + 1 = k
  congr 1
  rw [Ap, Bool.eq_iff_iff]
  simp only [decide_eq_true_eq, Bool.not_eq_true', decide_eq_false_iff_not]
  omega
 ·rw [if_pos (by rw [Ap]; simp; omega)]
  simp [h1]
def Avg : List UInt8 := [84, 84, 65, 49]
def f0 (b : List UInt8) : Nat := Dw (part b 4 2)
def f1 (b : List UInt8) : Nat := Dw (part b 6 2)
def f2 (b : List UInt8) : Nat := Dw (part b 8 2)
def f3 (b : List UInt8) : Nat := Dw (part b 10 4)
def f4 (b : List UInt8) : Nat := Dw (part b 14 4)
abbrev H6 := Int × Int × Int × Int × Int × Int
def Lh (b : List UInt8) : H6 :=
 if b.take (min 4 b.length) ≠ Avg.take (min 4 b.length) then (0, 0, 0, 0, 0, 12) else if b.length < 22 then (0, 0, 0, 0, 0, 24) else
 if (Gw (b.take 18)).toNat ≠ Dw (part b 18 4) then (0, 0, 0, 0, 0, 22) else
 if shapeB (f0 b) (f1 b) (f2 b) (f3 b) (f4 b) = false then (0, 0, 0, 0, 0, 12) else
 if fitB (f1 b) (f3 b) (f4 b) = false then (0, 0, 0, 0, 0, 4) else ((f0 b : Int), (f1 b : Int), (f2 b : Int), (f3 b : Int), (f4 b : Int), 0)
section
variable {b : List UInt8}
theorem rs1 (h : b.take (min 4 b.length) ≠ Avg.take (min 4 b.length)) : Lh b = (0, 0, 0, 0, 0, 12) := by rw [Lh, if_pos h]
variable (h : b.take (min 4 b.length) = Avg.take (min 4 b.length))
include h
theorem rs2 (h2 : b.length < 22) : Lh b = (0, 0, 0, 0, 0, 24) := by rw [Lh, if_neg (fun e => e h), if_pos h2]
variable (h2 : ¬ b.length < 22)
include h2
theorem rs3 (h3 : (Gw (b.take 18)).toNat ≠ Dw (part b 18 4)) : Lh b = (0, 0, 0, 0, 0, 22) := by rw [Lh, if_neg (fun e => e h), if_neg h2, if_pos h3]
variable (h3 : (Gw (b.take 18)).toNat = Dw (part b 18 4))
include h3
theorem rs4 (h4 : shapeB (f0 b) (f1 b) (f2 b) (f3 b) (f4 b) = false) : Lh b = (0, 0, 0, 0, 0, 12) := by rw [Lh, if_neg (fun e => e h), if_neg h2, if_neg (fun e => e h3), if_pos h4]
variable (h4 : shapeB (f0 b) (f1 b) (f2 b) (f3 b) (f4 b) = true)
include h4
theorem rs5 (h5 : fitB (f1 b) (f3 b) (f4 b) = false) : Lh b = (0, 0, 0, 0, 0, 4) := by rw [Lh, if_neg (fun e => e h), if_neg h2, if_neg (fun e => e h3), if_neg (by rw [h4]; simp), if_pos h5]
theorem rs6 (h5 : fitB (f1 b) (f3 b) (f4 b) = true) : Lh b = ((f0 b : Int), (f1 b : Int), (f2 b : Int), (f3 b : Int), (f4 b : Int), 0) := by rw [Lh, if_neg (fun e => e h), if_neg h2, if_neg (fun e => e h3), if_neg (by rw [h4]; simp), if_neg (by rw [h5]; simp)]
end
theorem Bm5 (b : List UInt8) (h2 : ¬ b.length < 22) : Bm (Ad (Gw (b.take 18)) : UInt64) (leU (part b 18 4)) = decide ((Gw (b.take 18)).toNat ≠ Dw (part b 18 4)) := by
 rw [Ag9, Ht, Bool.eq_iff_iff]
 simp only [bne_iff_ne, ne_eq, decide_eq_true_eq]
 rw [← UInt64.toNat_inj, Ajf (by have := (Gw (b.take 18)).toNat_lt; omega), Ajp (by rw [Cn (by omega)]; omega)]
theorem Apc (b : List UInt8) (a w : Nat) (i q : Nat) (l : List Int) (hi : i < 5) (hl : l.length = 5) (hw : Aj ([2, 2, 2, 4, 4] : List Int) (i : Int) = some (w : Int)) (h1 : 1 ≤ w) (h4 : w ≤ 4) (ha : a + w ≤ b.length) (hb : b.length < 4611686018427387904) :
  Lk b (q + 1) (a : Int) (i : Int) l = Lk b q ((a + w : Nat) : Int) ((i + 1 : Nat) : Int) (l.set i (Dw (part b a w) : Int)) := by
 rw [Lk, Ac2, if_pos (by rw [Af]; simp; omega), hw, Aa, Bay b a w h1 (by omega) ha hb, Aa]
 simp only
 rw [Cl (by omega), Aa, Yh _ (by omega), Aa, Aen (by rw [Cn ha]; omega), Ag (by omega) (by omega), Ag (by omega) (by omega)]
 rfl
theorem Bpf (b : List UInt8) (h22 : ¬ b.length < 22) (hb : b.length < 4611686018427387904) : Ab2 b 4 0 (List.replicate 5 0) = Ac3 [(f0 b : Int), (f1 b : Int), (f2 b : Int), (f3 b : Int), (f4 b : Int)] := by
 have hF : Ay = (Ay - 6) + 1 + 1 + 1 + 1 + 1 + 1 := by have := As; omega
 rw [Ab2, hF, show (4 : Int) = ((4 : Nat) : Int) from rfl, show (0 : Int) = ((0 : Nat) : Int) from rfl]
 rw [Apc b 4 2 0 _ _ (by omega) (by simp) rfl (by omega) (by omega) (by omega) hb, Apc b 6 2 1 _ _ (by omega) (by simp) rfl (by omega) (by omega) (by omega) hb, Apc b 8 2 2 _ _ (by omega) (by simp) rfl (by omega) (by omega) (by omega) hb,
  Apc b 10 4 3 _ _ (by omega) (by simp) rfl (by omega) (by omega) (by omega) hb, Apc b 14 4 4 _ _ (by omega) (by simp) rfl (by omega) (by omega) (by omega) hb, Lk, Ac2, if_neg (by rw [Af]; simp)]
 rfl
theorem Bwu (b : List UInt8) : Hb [84, 84, 65, 49] (b.take (min 4 b.length)) = some (decide (b.take (min 4 b.length) = Avg.take (min 4 b.length))) := by
 have hl : (b.take (min 4 b.length)).length = min 4 b.length := by rw [List.length_take]; omega
 rw [Hb, Em, if_pos (by rw [Ci, Ac, Ac, hl]; simp; omega), Ac, hl, Fy (by omega) (by simp; omega), Aa, Aa, Int.toNat_natCast]
 congr 1
 rw [Bool.eq_iff_iff]
 rw [decide_eq_true_eq, beq_iff_eq]
 exact eq_comm
theorem Bvk (b : List UInt8) : Gs (4 : Int) (Ac b) = ((min 4 b.length : Nat) : Int) := by rw [Akv, Ac]; omega
theorem Bl0 (b : List UInt8) (hb : b.length < 4611686018427387904) : Aau b = some (Lh b) := by
 rw [Aau, Aig, Bvk, Fy (by omega) (by omega), Aa, Int.toNat_natCast, Bwu, Aa]
 by_cases h : b.take (min 4 b.length) = Avg.take (min 4 b.length)
 ·rw [if_neg (by simpa using h)]
  by_cases h2 : b.length < 22
  ·rw [if_pos (by rw [Af, Ac]; simp; omega), rs2 h h2]
  ·have a1 : Ak3 b 18 4 = some (leU (part b 18 4), 0) := Bay b 18 4 (by omega) (by omega) (by omega) hb
   rw [if_neg (by rw [Af, Ac]; simp; omega), a1, Aa]
   simp only
   rw [Fy (by omega) (by omega), Aa, show (18 : Int).toNat = 18 from rfl, Bhy _ (by simp; omega), Aa]
   simp only
   rw [Bm5 b h2]
   by_cases h3 : (Gw (b.take 18)).toNat = Dw (part b 18 4)
   ·rw [if_neg (by simpa using h3), Bpf b h2 hb, Ac3, Aok]
    rw [show Aj [(f0 b : Int), (f1 b : Int), (f2 b : Int), (f3 b : Int), (f4 b : Int)] 0 = some (f0 b : Int) from rfl, show Aj [(f0 b : Int), (f1 b : Int), (f2 b : Int), (f3 b : Int), (f4 b : Int)] 1 = some (f1 b : Int) from rfl, show Aj [(f0 b : Int), (f1 b : Int), (f2 b : Int), (f3 b : Int), (f4 b : Int)] 2 = some (f2 b : Int) from rfl,
     show Aj [(f0 b : Int), (f1 b : Int), (f2 b : Int), (f3 b : Int), (f4 b : Int)] 3 = some (f3 b : Int) from rfl, show Aj [(f0 b : Int), (f1 b : Int), (f2 b : Int), (f3 b : Int), (f4 b : Int)] 4 = some (f4 b : Int) from rfl]
    simp only [Aa, Aor]
    cases h4 : shapeB (f0 b) (f1 b) (f2 b) (f3 b) (f4 b) with
    | false => rw [rs4 h h2 h3 h4]; rfl
    | true =>
     rw [Ats h4, if_neg (by simp), Aa]
     cases h5 : fitB (f1 b) (f3 b) (f4 b) with
     | false => rw [rs5 h h2 h3 h4 h5]; rfl
     | true => rw [rs6 h h2 h3 h4 h5]; rfl
   ·rw [if_pos (by simpa using h3), rs3 h h2 h3]
 ·rw [if_pos (by simpa using h), rs1 h]
theorem Bm1 (b : List UInt8) (hb : b.length < 4611686018427387904) : Vt b = some (Lh b) := by
 rw [Vt, Xh, Bvk, Fy (by omega) (by omega), Aa, Int.toNat_natCast, Fy (by omega) (by simp; omega), Aa, Int.toNat_natCast]
 by_cases h : b.take (min 4 b.length) = Avg.take (min 4 b.length)
 ·rw [if_neg (by rw [h]; simp [Avg]), We, Wa]
  by_cases h2 : b.length < 22
  ·rw [if_pos (by rw [Af, Ac]; simp; omega), rs2 h h2]
  ·have a1 : Br b 18 22 = some (part b 18 4) := Mv 18 4 (by omega)
   have c1 : Br b 4 6 = some (part b 4 2) := Mv 4 2 (by omega)
   have c2 : Br b 6 8 = some (part b 6 2) := Mv 6 2 (by omega)
   have c3 : Br b 8 10 = some (part b 8 2) := Mv 8 2 (by omega)
   have c4 : Br b 10 14 = some (part b 10 4) := Mv 10 4 (by omega)
   have c5 : Br b 14 18 = some (part b 14 4) := Mv 14 4 (by omega)
   have hs : Bm (leU (part b 18 4)) (Ad (Gw (b.take 18)) : UInt64) = decide ((Gw (b.take 18)).toNat ≠ Dw (part b 18 4)) := by
    rw [← Bm5 b h2, Ag9, Ag9, Bool.eq_iff_iff]; simp only [bne_iff_ne, ne_eq]; exact not_congr eq_comm
   have lp : ∀ a w, a + w ≤ b.length → Ah (part b a w) = some (leU (part b a w)) := fun a w h => Bdn _ (by rw [Cn h]; omega)
   rw [if_neg (by rw [Af, Ac]; simp; omega), a1, Aa, Fy (by omega) (by omega), Aa, show (18 : Int).toNat = 18 from rfl, lp _ _ (by omega), Aa, Bpr _ (by simp; omega), Aa, hs]
   by_cases h3 : (Gw (b.take 18)).toNat = Dw (part b 18 4)
   ·rw [if_neg (by simpa using h3), Xd, Nn, c1, Aa, c2, Aa, c3, Aa, c4, Aa, c5, Aa, lp _ _ (by omega), Aa, lp _ _ (by omega), Aa, lp _ _ (by omega), Aa, lp _ _ (by omega), Aa, lp _ _ (by omega), Aa,
     Wm, Aez, Aen (by rw [Cn (by omega)]; omega), Aen (by rw [Cn (by omega)]; omega), Aen (by rw [Cn (by omega)]; omega), Aen (by rw [Cn (by omega)]; omega), Aen (by rw [Cn (by omega)]; omega)]
    rw [show Dw (part b 4 2) = f0 b from rfl, show Dw (part b 6 2) = f1 b from rfl, show Dw (part b 8 2) = f2 b from rfl, show Dw (part b 10 4) = f3 b from rfl, show Dw (part b 14 4) = f4 b from rfl, Aq8, Aa]
    cases h4 : shapeB (f0 b) (f1 b) (f2 b) (f3 b) (f4 b) with
    | false => rw [rs4 h h2 h3 h4]; rfl
    | true =>
     rw [Ayc h4, if_neg (by simp), Aa]
     cases h5 : fitB (f1 b) (f3 b) (f4 b) with
     | false => rw [rs5 h h2 h3 h4 h5]; rfl
     | true => rw [rs6 h h2 h3 h4 h5]; rfl
   ·rw [if_pos (by simpa using h3), rs3 h h2 h3]
 ·rw [if_pos (by simpa [Avg] using h), rs1 h]
theorem Boa {b : List UInt8} (h : (Lh b).2.2.2.2.2 = 0) : Lh b = ((f0 b : Int), (f1 b : Int), (f2 b : Int), (f3 b : Int), (f4 b : Int), 0) ∧ 22 ≤ b.length ∧ shapeB (f0 b) (f1 b) (f2 b) (f3 b) (f4 b) = true ∧ fitB (f1 b) (f3 b) (f4 b) = true := by
 unfold Lh at h ⊢
 split at h; · simp at h
 rename_i c1; rw [if_neg c1]
 split at h; · simp at h
 rename_i c2; rw [if_neg c2]
 split at h; · simp at h
 rename_i c3; rw [if_neg c3]
 split at h; · simp at h
 rename_i c4; rw [if_neg c4]
 split at h; · simp at h
 rename_i c5; rw [if_neg c5]
 exact ⟨rfl, by omega, by simpa using c4, by simpa using c5⟩
theorem Be6 {f c w r n : Nat} (h : shapeB f c w r n = true) (h2 : fitB c r n = true) : Eh (f : Int) (c : Int) (w : Int) (r : Int) (n : Int) = some (framesL (longN r) n, 0) := by
 have hc : Xv (f : Int) (c : Int) (w : Int) (r : Int) (n : Int) = some 0 := by
  rw [Xv, Aor, Aa, h, if_neg (by simp), Ats h, Aa, h2]; rfl
 have hd : 4000 / c ≤ 4000 := Nat.div_le_self _ _
 simp only [shapeB, decide_eq_true_eq] at h
 simp only [fitB, decide_eq_true_eq] at h2
 rw [Eh, hc, Aa, if_neg (by rw [Al]; simp), Bna (by omega) (by omega) (by omega) (by omega) h2.2]
 rfl
end Go.Pl
