/- A part of the proof of a statement of this seat (see the text that ends in Proof): LwBase, LwBitB, LwLe, LwBits, LwRef02, LwCut, LwUn, LwRice, LwDual, LwVal, LwI32, LwFil, LwUnm, LwSam, LwCrc, LwFrm, LwC64, LwWby, LwId, LwApe, LwStrip, LwLen, LwHead. No conditions of its own. -/
import Derived.Test.YthchpoekjnapnaaGreatDoorSoBA
import Derived.Test.YthchpoekjnapnaaGreatDoorSoPA
set_option linter.unusedVariables false
set_option linter.unusedSimpArgs false
namespace Go.Lv
theorem Ag {a b : Int} (h : -9223372036854775808 ≤ a + b) (h' : a + b ≤ 9223372036854775807) : Ae a b = a + b := by rw [Bov, Bu h h']
theorem Bt {a b : Int} (h : -9223372036854775808 ≤ a - b) (h' : a - b ≤ 9223372036854775807) : Am a b = a - b := by rw [Bn1, Bu h h']
theorem Ih {a b : Int} (h : -9223372036854775808 ≤ a * b) (h' : a * b ≤ 9223372036854775807) : Bp a b = a * b := by rw [Bkd, Bu h h']
theorem Ady (c : UInt8) : (Ad c : Int) = (c.toNat : Int) := by rw [Bi6, Bu] <;> have := c.toNat_lt <;> omega
theorem Bb6 (c : UInt32) : (Ad c : Int) = (c.toNat : Int) := by rw [Bfq, Bu] <;> have := c.toNat_lt <;> omega
theorem Ang (c : UInt8) : (Ad c : UInt64) = UInt64.ofNat c.toNat := by simp only [Ad, Wn, Fv]
theorem Gl (c : UInt32) : (Ad c : UInt64) = UInt64.ofNat c.toNat := by simp only [Ad, Tv, Fv]
theorem Ai4 (c : UInt64) : (Ad c : UInt8) = UInt8.ofNat c.toNat := by simp only [Ad, Gt, Jq]
theorem Anh (c : UInt32) : (Ad c : UInt8) = UInt8.ofNat c.toNat := by simp only [Ad, Tv, Jq]
theorem Xa (n : Nat) : (Ad (n : Int) : UInt64) = UInt64.ofNat n := by simp only [Ad]; exact Fv n
theorem Awl (n : Nat) : (Ad (n : Int) : UInt32) = UInt32.ofNat n := by simp only [Ad]; exact Dr n
theorem Biy (n : Nat) : (Ad (n : Int) : UInt8) = UInt8.ofNat n := by simp only [Ad]; exact Jq n
theorem Apf {c : UInt64} (h : c.toNat < 9223372036854775808) : (Ad c : Int) = (c.toNat : Int) := by rw [Bgf, Bu] <;> omega
theorem Bex : LIM = 17179869184 := by decide
theorem Ay : 36893488147419103231 < Ba := by decide
theorem Dl {α : Type} {l : List α} {n : Nat} (h : n < l.length) : Aj l (n : Int) = some l[n] := by simp [Aj, h]
theorem Us {α : Type} {l : List α} {n : Nat} (x : α) (h : n < l.length) : Oi l (n : Int) x = some (l.set n x) := by simp [Oi, h]
theorem Ad8 {α : Type} {l : List α} {a b : Int} (h : 0 ≤ a) (h1 : a ≤ b) (h2 : b ≤ l.length) : Cv l a b = some ((l.take b.toNat).drop a.toNat) := by rw [Cv, if_pos ⟨h, h1, h2⟩]
theorem Aa1 {α : Type} {l : List α} {a : Int} (h : 0 ≤ a) (h1 : a ≤ l.length) : Cv l a (Ac l) = some (l.drop a.toNat) := by
 unfold Ac; rw [Ad8 h h1 (Int.le_refl _), Int.toNat_natCast, List.take_length]
theorem Ls {α : Type} {l : List α} {b : Int} (h : 0 ≤ b) (h1 : b ≤ l.length) : Cv l 0 b = some (l.take b.toNat) := by rw [Ad8 (Int.le_refl _) h h1]; rfl
theorem Gp {α : Type} {l m : List α} (h : l.length + m.length ≤ 17179869184) : Ir l m = some (l ++ m) := by rw [Ir, Bex, if_pos h]
theorem Ar0 {α : Type} {n : Int} {z : α} (h : 0 ≤ n) (h' : n ≤ 17179869184) : mkI n z = some (List.replicate n.toNat z) := by rw [mkI, Bex, if_pos ⟨h, h'⟩]
theorem Cq {b : Bool} (h : b = true) : Sa b = some () := by rw [h]; rfl
theorem Aa {α β : Type} (a : α) (f : α → Option β) : Option.bind (some a) f = f a := rfl
theorem drop_cons {α : Type} {l : List α} {n : Nat} (h : n < l.length) : l.drop n = l[n] :: l.drop (n + 1) := List.drop_eq_getElem_cons h
theorem Aho {α : Type} {l : List α} {n : Nat} (h : n < l.length) : l.take (n + 1) = l.take n ++ [l[n]] := by rw [List.take_add_one, List.getElem?_eq_getElem h]; rfl
def Eb : List UInt8 → Nat
 | [] => 0
 | x :: r => x.toNat + 256 * Eb r
theorem Axm : ∀ l : List UInt8, Eb l < 256 ^ l.length
 | [] => by simp [Eb]
 | x :: r => by
  have h := Axm r
  have := x.toNat_lt
  simp only [Eb, List.length_cons, Nat.pow_succ]
  omega
theorem Aul : ∀ l m : List UInt8, Eb (l ++ m) = Eb l + 256 ^ l.length * Eb m
 | [], m => by simp [Eb]
 | x :: r, m => by
  simp only [Eb, List.cons_append, Aul r m, List.length_cons, Nat.pow_succ, Nat.mul_add]
  rw [Nat.mul_comm (256 ^ r.length) 256, Nat.mul_assoc]; omega
def leU (l : List UInt8) : UInt64 := UInt64.ofNat (Eb l)
theorem Bmu {l : List UInt8} (h : l.length ≤ 8) : Eb l < 18446744073709551616 := by
 have h1 := Axm l
 have h2 : 256 ^ l.length ≤ 256 ^ 8 := Nat.pow_le_pow_right (by omega) h
 exact Nat.lt_of_lt_of_le h1 (by simpa using h2)
theorem Bd7 {l : List UInt8} (h : l.length ≤ 4) : Eb l < 4294967296 := by
 have h1 := Axm l
 have h2 : 256 ^ l.length ≤ 256 ^ 4 := Nat.pow_le_pow_right (by omega) h
 exact Nat.lt_of_lt_of_le h1 (by simpa using h2)
theorem Af1 {l : List UInt8} (h : l.length ≤ 8) : (leU l).toNat = Eb l := by
 rw [leU, UInt64.toNat_ofNat', Nat.mod_eq_of_lt (Bmu h)]
theorem Aa8 {l : List UInt8} (h : l.length ≤ 4) : (Ad (leU l) : Int) = (Eb l : Int) := by
 have := Bd7 h
 rw [Apf] <;> rw [Af1 (by omega)]; omega
def leB (n : Nat) : Nat → List UInt8
 | 0 => []
 | w + 1 => UInt8.ofNat n :: leB (n / 256) w
theorem Mx : ∀ (w n : Nat), (leB n w).length = w
 | 0, _ => rfl
 | w + 1, n => by simp [leB, Mx w]
theorem Ba4 : ∀ (w n : Nat), leB n (w + 1) = leB n w ++ [UInt8.ofNat (n / 256 ^ w)]
 | 0, n => by simp [leB]
 | w + 1, n => by
  rw [leB, Ba4 w (n / 256), leB]
  simp [Nat.div_div_eq_div_mul, Nat.pow_succ, Nat.mul_comm]
end Go.Lv
set_option linter.unusedVariables false
set_option linter.unusedSimpArgs false
namespace Go.Lv
def Hu (p : List UInt8) (i : Nat) : Nat := (p.getD (i / 8) 0).toNat / 2 ^ (i % 8) % 2
theorem Vd (p : List UInt8) (i : Nat) : Hu p i < 2 := Nat.mod_lt _ (by omega)
def Bq (p : List UInt8) : Nat → Nat → Nat
 | _, 0 => 0
 | a, n + 1 => Hu p a + 2 * Bq p (a + 1) n
theorem Ou (p : List UInt8) : ∀ (n a : Nat), Bq p a n < 2 ^ n
 | 0, _ => by simp [Bq]
 | n + 1, a => by
  have := Ou p n (a + 1)
  have := Vd p a
  rw [Bq, Nat.pow_succ]; omega
theorem Ae1 (p : List UInt8) : ∀ (m n a : Nat), Bq p a (m + n) = Bq p a m + 2 ^ m * Bq p (a + m) n
 | 0, n, a => by simp [Bq]
 | m + 1, n, a => by
  rw [show m + 1 + n = (m + n) + 1 by omega, Bq, Bq, Ae1 p m n (a + 1), show a + 1 + m = a + (m + 1) by omega, Nat.pow_succ, Nat.mul_add, Nat.mul_comm (2 ^ m) 2, Nat.mul_assoc]; omega
theorem Bac (p : List UInt8) (a : Nat) : Bq p a 1 = Hu p a := by simp [Bq]
theorem Avp (p : List UInt8) (a n : Nat) : Bq p a (n + 1) = Bq p a n + 2 ^ n * Hu p (a + n) := by rw [Ae1 p n 1 a, Bac]
theorem Ao7 (p : List UInt8) (a : Nat) : ∀ t : Nat, a % 8 + t ≤ 8 → Bq p a t = (p.getD (a / 8) 0).toNat / 2 ^ (a % 8) % 2 ^ t
 | 0, _ => by simp [Bq, Nat.mod_one]
 | t + 1, h => by
  have h1 : (a + t) / 8 = a / 8 := by omega
  have h2 : (a + t) % 8 = a % 8 + t := by omega
  rw [Avp, Ao7 p a t (by omega), Hu, h1, h2, Nat.mod_pow_succ, Nat.pow_add, Nat.div_div_eq_div_mul]
theorem Awe {p : List UInt8} : ∀ (n a : Nat), (∀ k, k < n → Hu p (a + k) = 0) → Bq p a n = 0
 | 0, _, _ => rfl
 | n + 1, a, h => by
  have h0 := h 0 (by omega)
  rw [Bq, Awe n (a + 1) fun k hk => by have := h (k + 1) (by omega); rwa [show a + 1 + k = a + (k + 1) by omega]]
  rw [Nat.add_zero] at h0; omega
def okB (p : List UInt8) (n : Nat) : Prop := n ≤ 330000 ∧ p.length = (n + 7) / 8 ∧ ∀ k, n ≤ k → k < 8 * p.length → Hu p k = 0
def Aa4 (p : List UInt8) (a n : Nat) : List UInt8 := (List.range ((n + 7) / 8)).map fun j => UInt8.ofNat (Bq p (a + 8 * j) (min 8 (n - 8 * j)))
theorem Lq (p : List UInt8) (a n : Nat) : (Aa4 p a n).length = (n + 7) / 8 := by simp [Aa4]
theorem Azg (p : List UInt8) : ∀ (n a k : Nat), k < n → Bq p a n / 2 ^ k % 2 = Hu p (a + k)
 | n + 1, a, 0, _ => by have := Vd p a; rw [Bq]; simp; omega
 | n + 1, a, k + 1, h => by
  have hb := Vd p a
  have e : (Hu p a + 2 * Bq p (a + 1) n) / 2 = Bq p (a + 1) n := by omega
  rw [Bq, Nat.pow_succ, Nat.mul_comm (2 ^ k) 2, ← Nat.div_div_eq_div_mul, e, Azg p n (a + 1) k (by omega), show a + 1 + k = a + (k + 1) by omega]
theorem Bgv (p : List UInt8) (n a k : Nat) (h : n ≤ k) : Bq p a n / 2 ^ k % 2 = 0 := by
 have := Ou p n a
 rw [Nat.div_eq_of_lt (Nat.lt_of_lt_of_le this (Nat.pow_le_pow_right (by omega) h))]
theorem Bib (p : List UInt8) (a n k : Nat) : Hu (Aa4 p a n) k = if k < n then Hu p (a + k) else 0 := by
 rw [Hu]
 by_cases hj : k / 8 < (n + 7) / 8
 ·have e : (Aa4 p a n).getD (k / 8) 0 = UInt8.ofNat (Bq p (a + 8 * (k / 8)) (min 8 (n - 8 * (k / 8)))) := by
   rw [List.getD_eq_getElem?_getD, List.getElem?_eq_getElem (by rw [Lq]; exact hj)]; simp [Aa4]
  have hlt : Bq p (a + 8 * (k / 8)) (min 8 (n - 8 * (k / 8))) < 256 := by
   have := Ou p (min 8 (n - 8 * (k / 8))) (a + 8 * (k / 8))
   have h2 : 2 ^ (min 8 (n - 8 * (k / 8))) ≤ 2 ^ 8 := Nat.pow_le_pow_right (by omega) (by omega)
   omega
  have hu : (UInt8.ofNat (Bq p (a + 8 * (k / 8)) (min 8 (n - 8 * (k / 8))))).toNat = Bq p (a + 8 * (k / 8)) (min 8 (n - 8 * (k / 8))) := by
   rw [UInt8.toNat_ofNat']; exact Nat.mod_eq_of_lt hlt
  rw [e, hu]
  by_cases hk : k < n
  ·rw [if_pos hk, Azg p _ _ _ (by omega), show a + 8 * (k / 8) + k % 8 = a + k by omega]
  ·rw [if_neg hk, Bgv p _ _ _ (by omega)]
 ·have e : (Aa4 p a n).getD (k / 8) 0 = 0 := by
   rw [List.getD_eq_getElem?_getD, List.getElem?_eq_none (by rw [Lq]; omega)]; rfl
  rw [e, if_neg (by omega)]; simp
theorem Bel (p : List UInt8) (a n : Nat) (h : n ≤ 330000) : okB (Aa4 p a n) n := ⟨h, Lq p a n, fun k hk _ => by rw [Bib, if_neg (by omega)]⟩
end Go.Lv
set_option linter.unusedVariables false
set_option linter.unusedSimpArgs false
namespace Go.Pl
open Go Go.Lv
theorem Bi5 (b : List UInt8) (hb : b.length < 4611686018427387904) : ∀ (j q : Nat), j ≤ b.length → j < q → Ha b q (leU (b.drop j)) ((j : Int) - 1) = some (leU b)
 | 0, q + 1, _, _ => by
  rw [Ha, Ph, if_neg (by rw [Dm]; simp)]
  simp [Wf, Ad5]
 | j + 1, q + 1, hj, hq => by
  rw [Ha, Ph, if_pos (by rw [Dm]; simp), show ((j + 1 : Nat) : Int) - 1 = (j : Int) by omega, Dl (by omega), Aa, Bt (by omega) (by omega)]
  have h : Ae (Bp (256 : UInt64) (leU (b.drop (j + 1)))) (Ad b[j] : UInt64) = leU (b.drop j) := by
   rw [Acf, Ab2, Ang, drop_cons (n := j) (by omega), leU, leU, Eb, UInt64.ofNat_add, UInt64.ofNat_mul]
   exact UInt64.add_comm _ _
  rw [h]
  exact Bi5 b hb j q (by omega) (by omega)
theorem Az0 (b : List UInt8) (hb : b.length < 4611686018427387904) : Ah b = some (leU b) := by
 have h := Bi5 b hb b.length Ba (Nat.le_refl _) (by have := Ay; omega)
 rw [Ah, Wg, We]
 have e : Am (Ac b) 1 = (b.length : Int) - 1 := Bt (by unfold Ac; omega) (by unfold Ac; omega)
 rw [e, ← h, List.drop_length]; rfl
theorem Bho {n c : UInt64} {i : Nat} (hn : n.toNat < 2 ^ i) (hc : c.toNat * 2 ^ i < 18446744073709551616) : gor n (Eu c i) = UInt64.ofNat (n.toNat + c.toNat * 2 ^ i) := by
 rw [Blq]; apply UInt64.toNat_inj.1
 rw [UInt64.toNat_or, Ag4, Nat.mod_eq_of_lt hc, Nat.mul_comm, Nat.or_comm, ← Nat.two_pow_add_eq_or_of_lt hn, UInt64.toNat_ofNat', Nat.mod_eq_of_lt, Nat.add_comm, Nat.mul_comm]
 have h := Nat.two_pow_add_eq_or_of_lt hn c.toNat
 have h2 : 2 ^ i * c.toNat + n.toNat < 2 ^ 64 := by
  rw [h]
  exact Nat.or_lt_two_pow (by rw [Nat.mul_comm]; simpa using hc) n.toNat_lt
 rw [Nat.add_comm]; first | exact h2 | (rw [Nat.mul_comm]; exact h2)
theorem Aws (b : List UInt8) (hb : b.length ≤ 8) : ∀ (j i q : Nat), i + j = b.length → j < q → Xd b q (leU (b.take i)) (i : Int) = some (leU b, 0)
 | 0, i, q + 1, hi, _ => by
  rw [Xd, Afx, if_neg (by rw [Af, Ac]; simp; omega), show i = b.length by omega, List.take_length]; rfl
 | j + 1, i, q + 1, hi, hq => by
  have hlt : i < b.length := by omega
  rw [Xd, Afx, if_pos (by rw [Af, Ac]; simp; omega), Dl hlt, Aa, Ih (by omega) (by omega), Cq (by rw [Dm]; simp; omega), Aa, Ag (by omega) (by omega)]
  have h : gor (leU (b.take i)) (Eu (Ad b[i] : UInt64) (GI.toZ ((8 : Int) * (i : Int))).toNat) = leU (b.take (i + 1)) := by
   have e : (GI.toZ ((8 : Int) * (i : Int))).toNat = 8 * i := by show ((8 : Int) * (i : Int)).toNat = _; omega
   have e2 : (2 : Nat) ^ (8 * i) = 256 ^ i := by rw [Nat.pow_mul]
   have h1 := Axm (b.take i)
   rw [List.length_take, Nat.min_eq_left (by omega)] at h1
   have h3 := b[i].toNat_lt
   have hle : (256 : Nat) ^ (i + 1) ≤ 256 ^ 8 := Nat.pow_le_pow_right (by omega) (by omega)
   rw [Nat.pow_succ] at hle
   have h4 : (Ad b[i] : UInt64).toNat = b[i].toNat := by rw [Ang, UInt64.toNat_ofNat']; omega
   have h5 : b[i].toNat * 256 ^ i < 18446744073709551616 := by
    have : b[i].toNat * 256 ^ i < 256 * 256 ^ i := Nat.mul_lt_mul_of_pos_right (by simpa using h3) (Nat.pow_pos (by omega))
    simp at hle; omega
   rw [e, Bho (by rw [Af1 (by simp; omega), e2]; exact h1) (by rw [h4, e2]; exact h5), Af1 (by simp; omega), h4, e2, Aho hlt]
   rw [leU, Aul]
   simp only [Eb, List.length_take, Nat.min_eq_left (Nat.le_of_lt hlt), Nat.mul_zero, Nat.add_zero]
   rw [Nat.mul_comm]
  rw [h]
  exact Aws b hb j (i + 1) q (by omega) (by omega)
theorem Az5 (b : List UInt8) (h1 : 1 ≤ b.length) (h2 : b.length ≤ 8) : Aj8 b = some (leU b, 0) := by
 have h := Aws b h2 b.length 0 Ba (by omega) (by have := Ay; omega)
 rw [Aj8, Ak9, if_neg (by simp [Af, Bc, Ac]; omega), Akg]
 exact h
def part (b : List UInt8) (at' w : Nat) : List UInt8 := (b.take (at' + w)).drop at'
theorem Cx {b : List UInt8} {a w : Nat} (h : a + w ≤ b.length) : (part b a w).length = w := by simp [part]; omega
theorem Awa (b : List UInt8) (a w : Nat) (h1 : 1 ≤ w) (h2 : w ≤ 8) (h3 : a + w ≤ b.length) (hb : b.length < 4611686018427387904) : Ahy b (a : Int) (w : Int) = some (leU (part b a w), 0) := by
 rw [Ahy, if_neg (by simp [Af, Bc]; omega), if_neg (by rw [Bc, Bt (by unfold Ac; omega) (by unfold Ac; omega), Ac]; simp; omega), Ag (by omega) (by omega), Ad8 (by omega) (by omega) (by omega), Aa]
 rw [show ((a : Int) + (w : Int)).toNat = a + w by omega, show (a : Int).toNat = a by omega]
 rw [Az5 _ (by rw [show ((b.take (a + w)).drop a).length = _ from Cx h3]; exact h1) (by rw [show ((b.take (a + w)).drop a).length = _ from Cx h3]; exact h2), Aa]; rfl
theorem Ap9 (w : Nat) (hw : w ≤ 1000) : ∀ (j i q : Nat) (n : UInt64) (acc : List UInt8), i + j = w → j < q → acc.length + j ≤ 1000000 → Dw (w : Int) q n (i : Int) acc = some (acc ++ leB n.toNat j)
 | 0, i, q + 1, n, acc, hi, _, _ => by
  rw [Dw, Hv, if_neg (by rw [Af]; simp; omega)]
  simp [Nm, Wz, leB]
 | j + 1, i, q + 1, n, acc, hi, hq, ha => by
  rw [Dw, Hv, if_pos (by rw [Af]; simp; omega)]
  have e : (Ad (Xo n (256 : UInt64)) : UInt8) = UInt8.ofNat n.toNat := by
   rw [Ai4, Ayy]; apply UInt8.toNat_inj.1
   rw [UInt8.toNat_ofNat', UInt8.toNat_ofNat', UInt64.toNat_mod]
   show n.toNat % 256 % 256 = _
   omega
  have e2 : (Dc n (256 : UInt64)).toNat = n.toNat / 256 := by rw [Aoy, UInt64.toNat_div]; rfl
  rw [Gp (by simp; omega), Aa, Ag (by omega) (by omega), e]
  have h := Ap9 w hw j (i + 1) q (Dc n 256) (acc ++ [UInt8.ofNat n.toNat]) (by omega) (by omega) (by simp; omega)
  rw [e2] at h
  rw [show ((i : Int) + 1) = ((i + 1 : Nat) : Int) by omega, h, leB]; simp
theorem Ar1 (n : UInt64) (w : Nat) (hw : w ≤ 1000) : Cs n (w : Int) = some (leB n.toNat w) := by
 rw [Cs, Nu, Oh]
 have h := Ap9 w hw w 0 Ba n [] (by omega) (by have := Ay; omega) (by simp; omega)
 simpa using h
theorem Alz {α : Type} {l m : List α} {x y : α} {i : Nat} (h : l.length = i) : (l ++ x :: m).set i y = l ++ y :: m := by subst h; simp
theorem Awi (n : UInt64) (l4 : List UInt8) (w : Nat) (hl : l4.length = w) (hw : w ≤ 8) : ∀ (j i q : Nat), i + j = w → j < q → Wt n l4 q (i : Int) (leB n.toNat i ++ List.replicate j 0) = some (leB n.toNat w, 0)
 | 0, i, q + 1, hi, _ => by
  rw [Wt, Afr, if_neg (by rw [Af, Ac]; simp; omega)]
  obtain rfl : i = w := by omega
  simp [Akn, Ap1]
 | j + 1, i, q + 1, hi, hq => by
  have hlen : (leB n.toNat i ++ List.replicate (j + 1) 0).length = i + (j + 1) := by simp [Mx]
  rw [Wt, Afr, if_pos (by rw [Af, Ac]; simp; omega), Ih (by omega) (by omega), Cq (by rw [Dm]; simp; omega), Aa, Dl (by rw [hlen]; omega), Aa, Us _ (by rw [hlen]; omega), Aa, Ag (by omega) (by omega)]
  have e : (Ad (Cj n (GI.toZ ((8 : Int) * (i : Int))).toNat) : UInt8) = UInt8.ofNat (n.toNat / 256 ^ i) := by
   have e : (GI.toZ ((8 : Int) * (i : Int))).toNat = 8 * i := by show ((8 : Int) * (i : Int)).toNat = _; omega
   rw [e, Ai4, Ab6, Nat.pow_mul]
  rw [e, List.replicate_succ, Alz (Mx _ _)]
  have h := Awi n l4 w hl hw j (i + 1) q (by omega) (by omega)
  rw [Ba4] at h
  simpa using h
theorem Bls (n : UInt64) (w : Nat) (h1 : 1 ≤ w) (h2 : w ≤ 8) (h : n.toNat < 256 ^ w) : Aq6 n (w : Int) = some true := by
 rw [Aq6]
 by_cases h8 : w = 8
 ·subst h8; rw [if_pos (by rw [Cd]; rfl)]
 ·rw [if_neg (by rw [Cd]; simp; omega), Ih (by omega) (by omega), Cq (by rw [Dm]; simp; omega), Aa]
  have e : (GI.toZ ((8 : Int) * (w : Int))).toNat = 8 * w := by show ((8 : Int) * (w : Int)).toNat = _; omega
  rw [e, Ara]
  have : Cj n (8 * w) = 0 := by
   apply UInt64.toNat_inj.1
   rw [Ab6, Nat.pow_mul]
   exact Nat.div_eq_of_lt h
  rw [this]; rfl
theorem Ayk (n : UInt64) (w : Nat) (h1 : 1 ≤ w) (h2 : w ≤ 8) (h : n.toNat < 256 ^ w) : Akr n (w : Int) = some (leB n.toNat w, 0) := by
 rw [Akr, Alb, if_neg (by simp [Af, Bc]; omega), Bls n w h1 h2 h, Aa, if_neg (by simp), Ar0 (by omega) (by omega), Aa, Cq (by rw [Cd]; simp), Aa, Aj5]
 have h := Awi n (List.replicate (w : Int).toNat 0) w (by simp) h2 w 0 Ba (by omega) (by have := Ay; omega)
 simpa [leB] using h
end Go.Pl
set_option linter.unusedVariables false
set_option linter.unusedSimpArgs false
namespace Go.Pl
open Go Go.Lv
theorem Az4 (n : Nat) (h : n < 4611686018427387904) : He (n : Int) (7 : Int) = ((n % 8 : Nat) : Int) := by
 have e : He (n : Int) (7 : Int) = wrap64 ((BitVec.ofInt 64 (n : Int) &&& BitVec.ofInt 64 7).toNat : Int) := rfl
 rw [e, BitVec.toNat_and, BitVec.toNat_ofInt, BitVec.toNat_ofInt]
 have h1 : ((n : Int) % ((2 ^ 64 : Nat) : Int)).toNat = n := by omega
 have h2 : ((7 : Int) % ((2 ^ 64 : Nat) : Int)).toNat = 2 ^ 3 - 1 := by decide
 rw [h1, h2, Nat.and_two_pow_sub_one_eq_mod, Bu (by omega) (by omega)]
theorem Bp0 (n : Nat) : Ax6 (n : Int) (GI.toZ (3 : UInt64)).toNat = ((n / 8 : Nat) : Int) := by
 have e : Ax6 (n : Int) (GI.toZ (3 : UInt64)).toNat = (n : Int).fdiv 8 := rfl
 rw [e, Int.fdiv_eq_ediv_of_nonneg _ (by omega)]; omega
theorem Bpw {t : Nat} (h : t ≤ 8) : Am (Eu (1 : UInt8) t) (1 : UInt8) = UInt8.ofNat (2 ^ t - 1) := by
 have : t = 0 ∨ t = 1 ∨ t = 2 ∨ t = 3 ∨ t = 4 ∨ t = 5 ∨ t = 6 ∨ t = 7 ∨ t = 8 := by omega
 rcases this with rfl | rfl | rfl | rfl | rfl | rfl | rfl | rfl | rfl <;> decide
theorem bitsOf (c : UInt8) (off t : Nat) (h : t ≤ 8) : (He (Cj c off) (Am (Eu (1 : UInt8) t) (1 : UInt8))).toNat = c.toNat / 2 ^ off % 2 ^ t := by
 have hp : 2 ^ t ≤ 2 ^ 8 := Nat.pow_le_pow_right (by omega) h
 rw [Bpw h, Blw, UInt8.toNat_and, Bd6, UInt8.toNat_ofNat', Nat.mod_eq_of_lt (by have := Nat.pow_pos (n := t) (show 0 < 2 by omega); omega), Nat.and_two_pow_sub_one_eq_mod]
theorem Asb {p : List UInt8} {k : Nat} (h : k < p.length) : Aj p (k : Int) = some (p.getD k 0) := by
 rw [Dl h]; simp [List.getD_eq_getElem?_getD, h]
def Tk (p : List UInt8) (a n : Nat) : UInt64 := UInt64.ofNat (Bq p a n)
theorem Ym (p : List UInt8) (a n : Nat) (h : n ≤ 64) : (Tk p a n).toNat = Bq p a n := by
 have h1 := Ou p n a
 have h2 : 2 ^ n ≤ 2 ^ 64 := Nat.pow_le_pow_right (by omega) h
 rw [Tk, UInt64.toNat_ofNat', Nat.mod_eq_of_lt (by omega)]
theorem Ayt (p : List UInt8) (N : Int) (a n : Nat) (hn : n ≤ 64) (ha : a + n ≤ 8 * p.length) (hp : p.length ≤ 1000000) : ∀ (j h q : Nat), h + j = n → j < q → Abv (a : Int) (n : Int) p N q (Tk p a h) (h : Int) = some (Tk p a n)
 | j, h, q + 1, hj, hq => by
  rw [Abv, Aky]
  by_cases hlt : h < n
  ·have e1 : Ae (a : Int) (h : Int) = ((a + h : Nat) : Int) := by rw [Ag (by omega) (by omega)]; omega
   have e2 : Fy (Am (n : Int) (h : Int)) (Am (8 : Int) (((a + h) % 8 : Nat) : Int)) = ((min (n - h) (8 - (a + h) % 8) : Nat) : Int) := by
    rw [Af8, Bt (by omega) (by omega), Bt (by omega) (by omega)]; omega
   have hm : (a + h) / 8 < p.length := by omega
   rw [if_pos (by rw [Af]; simp; omega), e1, Bp0, Asb hm, Aa, Az4 _ (by omega), Cq (by rw [Dm]; simp; omega), Aa, e2, Cq (by rw [Dm]; simp), Aa, Cq (by rw [Dm]; simp), Aa]
   generalize hT : min (n - h) (8 - (a + h) % 8) = T
   have hT8 : T ≤ 8 := by omega
   have hT1 : 1 ≤ T := by omega
   have hb : (a + h) % 8 + T ≤ 8 := by omega
   have hv := Ao7 p (a + h) T hb
   have z1 : (GI.toZ (((a + h) % 8 : Nat) : Int)).toNat = (a + h) % 8 := rfl
   have z2 : (GI.toZ ((T : Nat) : Int)).toNat = T := rfl
   have z3 : (GI.toZ ((h : Nat) : Int)).toNat = h := rfl
   rw [z1, z2, z3]
   have hx : (Ad (He (Cj (p.getD ((a + h) / 8) 0) ((a + h) % 8)) (Am (Eu (1 : UInt8) T) (1 : UInt8))) : UInt64).toNat = Bq p (a + h) T := by
    rw [Ang, UInt64.toNat_ofNat', bitsOf _ _ _ hT8, ← hv]
    have := Ou p T (a + h)
    have h2 : 2 ^ T ≤ 2 ^ 8 := Nat.pow_le_pow_right (by omega) hT8
    omega
   have hlt2 := Ou p (h + T) a
   rw [Ae1] at hlt2
   have h64 : 2 ^ (h + T) ≤ 2 ^ 64 := Nat.pow_le_pow_right (by omega) (by omega)
   have hor : gor (Tk p a h) (Eu (Ad (He (Cj (p.getD ((a + h) / 8) 0) ((a + h) % 8)) (Am (Eu (1 : UInt8) T) (1 : UInt8))) : UInt64) h) = Tk p a (h + T) := by
    rw [Bho (by rw [Ym p a h (by omega)]; exact Ou p h a) (by rw [hx, Nat.mul_comm]; omega), hx, Ym p a h (by omega), Tk, Ae1, Nat.mul_comm (2 ^ h)]
   rw [hor, Ag (by omega) (by omega), show (h : Int) + ((T : Nat) : Int) = ((h + T : Nat) : Int) by omega]
   exact Ayt p N a n hn ha hp (j - T) (h + T) q (by omega) (by omega)
  ·rw [if_neg (by rw [Af]; simp; omega), show h = n by omega]; rfl
theorem get_eq (p : List UInt8) (N : Int) (a n : Nat) (hn : n ≤ 64) (ha : a + n ≤ 8 * p.length) (hp : p.length ≤ 1000000) : Aok p N (a : Int) (n : Int) = some (Tk p a n) := by
 have := Ayt p N a n hn ha hp n 0 Ba (by omega) (by have := Ay; omega)
 exact this
theorem Adw {p : List UInt8} {n : Nat} (h : okB p n) : Pb p (n : Int) = some 0 := by
 obtain ⟨h1, h2, h3⟩ := h
 have e7 : Ae (n : Int) 7 = ((n + 7 : Nat) : Int) := by rw [Ag (by omega) (by omega)]; omega
 rw [Pb, e7, Bp0, if_neg (by simp [Af, Bc, As, Ac, h2]; omega), Az4 _ (by omega)]
 by_cases hz : n % 8 = 0
 ·rw [if_neg (by rw [Bc]; simp; omega)]
 ·have el : Am (Ac p) 1 = ((p.length - 1 : Nat) : Int) := by rw [Ac, Bt (by omega) (by omega)]; omega
  rw [if_pos (by rw [Bc]; simp; omega), el, Asb (by omega), Aa, Cq (by rw [Dm]; simp; omega), Aa]
  have z : (GI.toZ ((n % 8 : Nat) : Int)).toNat = n % 8 := rfl
  have hs : Cj (p.getD (p.length - 1) 0) (n % 8) = 0 := by
   apply UInt8.toNat_inj.1
   rw [Bd6]
   have hv := Ao7 p n (8 - n % 8) (by omega)
   have h0 : Bq p n (8 - n % 8) = 0 := Awe _ _ fun k hk => h3 _ (by omega) (by omega)
   rw [h0, show n / 8 = p.length - 1 by omega] at hv
   have hlt : (p.getD (p.length - 1) 0).toNat / 2 ^ (n % 8) < 2 ^ (8 - n % 8) := by
    have := (p.getD (p.length - 1) 0).toNat_lt
    rw [Nat.div_lt_iff_lt_mul (Nat.pow_pos (by omega)), ← Nat.pow_add, show 8 - n % 8 + n % 8 = 8 by omega]; simpa using this
   rw [Nat.mod_eq_of_lt hlt] at hv
   exact hv.symm
  rw [z, hs, if_neg (by rw [Bc9]; simp)]
theorem Apk {p : List UInt8} {N : Nat} (h : okB p N) (a n : Nat) (hn : n ≤ 64) : Yz p (N : Int) (a : Int) (n : Int) = some (if N < a + n then (0, 24) else (Tk p a n, 0)) := by
 obtain ⟨h1, h2, h3⟩ := h
 rw [Yz, Adw ⟨h1, h2, h3⟩, Aa, if_neg (by rw [As]; simp), if_neg (by simp [Af, Bc]; omega), Bt (by omega) (by omega)]
 by_cases hl : N < a + n
 ·rw [if_pos (by rw [Bc]; simp; omega), if_pos hl]
 ·rw [if_neg (by rw [Bc]; simp; omega), get_eq p N a n hn (by omega) (by omega), Aa, if_neg hl]
end Go.Pl
set_option linter.unusedVariables false
set_option linter.unusedSimpArgs false
namespace Go.Pl
open Go Go.Lv
theorem Bqa (c : Nat) (h : c < 4611686018427387904) : Dc (c : Int) (2 : Int) = ((c / 2 : Nat) : Int) := by
 rw [Ae9, Int.tdiv_eq_ediv_of_nonneg (by omega), Bu (by omega) (by omega)]; omega
theorem Bpo (c : Nat) (h : c < 4611686018427387904) : Dc (c : Int) (8 : Int) = ((c / 8 : Nat) : Int) := by
 rw [Ae9, Int.tdiv_eq_ediv_of_nonneg (by omega), Bu (by omega) (by omega)]; omega
theorem Bir (c : Nat) : Il (c : Int) (8 : Int) = ((c % 8 : Nat) : Int) := by rw [Il, Int.tmod_eq_emod_of_nonneg (by omega)]; omega
theorem Bqj (c : Nat) : Il (c : Int) (2 : Int) = ((c % 2 : Nat) : Int) := by rw [Il, Int.tmod_eq_emod_of_nonneg (by omega)]; omega
theorem Bey (i c : Nat) (hc : c < 256) : ∀ (j k q : Nat), k + j = i % 8 → j < q → Hh (i : Int) q ((c / 2 ^ k : Nat) : Int) (k : Int) = some (((c / 2 ^ (i % 8) % 2 : Nat) : Int))
 | 0, k, q + 1, hk, _ => by
  rw [Hh, Pk, Bir, if_neg (by rw [Af]; simp; omega), Wa, Aez, Bqj, show k = i % 8 by omega]
 | j + 1, k, q + 1, hk, hq => by
  have hle : c / 2 ^ k ≤ c := Nat.div_le_self _ _
  rw [Hh, Pk, Bir, if_pos (by rw [Af]; simp; omega), Bqa _ (by omega), Ag (by omega) (by omega), Nat.div_div_eq_div_mul, ← Nat.pow_succ]
  exact Bey i c hc j (k + 1) q (by omega) (by omega)
theorem Apl (p : List UInt8) (N : Int) (i : Nat) (h : i / 8 < p.length) (hi : i < 4611686018427387904) : Gn p N (i : Int) = some ((Hu p i : Nat) : Int) := by
 have hc := (p.getD (i / 8) 0).toNat_lt
 have := Bey i (p.getD (i / 8) 0).toNat (by simpa using hc) (i % 8) 0 Ba (by omega) (by have := Ay; omega)
 rw [Gn, Wp, Bpo _ hi, Asb h, Aa, Ady, Wo]
 simpa [Hu] using this
theorem Atu (p : List UInt8) (N : Int) (a n : Nat) (ha : a + n ≤ 8 * p.length) (hp : p.length ≤ 1000000) : ∀ (j q : Nat), j ≤ n → j < q → Fb (a : Int) p N q (Tk p (a + j) (n - j)) ((j : Int) - 1) = some (Tk p a n)
 | 0, q + 1, _, _ => by
  rw [Fb, Kg, if_neg (by rw [Dm]; simp)]; rfl
 | j + 1, q + 1, hj, hq => by
  have hb := Vd p (a + j)
  rw [Fb, Kg, show ((j + 1 : Nat) : Int) - 1 = (j : Int) by omega, if_pos (by rw [Dm]; simp), Ag (a := (a : Int)) (by omega) (by omega), show (a : Int) + (j : Int) = ((a + j : Nat) : Int) by omega, Apl p N (a + j) (by omega) (by omega), Aa, Bt (by omega) (by omega)]
  have e : Ae (Bp (2 : UInt64) (Tk p (a + (j + 1)) (n - (j + 1)))) (Ad ((Hu p (a + j) : Nat) : Int) : UInt64) = Tk p (a + j) (n - j) := by
   rw [Acf, Ab2, Xa, Tk, Tk, show n - j = (n - (j + 1)) + 1 by omega, Bq, show a + j + 1 = a + (j + 1) by omega, UInt64.ofNat_add, UInt64.ofNat_mul]
   exact UInt64.add_comm _ _
  rw [e]
  exact Atu p N a n ha hp j q (by omega) (by omega)
theorem Amy (p : List UInt8) (N : Int) (a n : Nat) (ha : a + n ≤ 8 * p.length) (hp : p.length ≤ 1000000) : Jw p N (a : Int) (n : Int) = some (Tk p a n) := by
 have := Atu p N a n ha hp n Ba (Nat.le_refl _) (by have := Ay; omega)
 have hz : Tk p (a + n) (n - n) = 0 := by rw [Nat.sub_self]; rfl
 rw [hz] at this
 rw [Jw, Qp, Rb, Bt (by omega) (by omega)]
 exact this
theorem Bdb (bit : Int) (N : Nat) (l : List UInt8) : ∀ (j k q : Nat), k + j = N % 8 → j < q → Gi bit (N : Int) l q ((2 ^ k : Nat) : Int) (k : Int) = Mw bit ((2 ^ (N % 8) : Nat) : Int) (N : Int) l
 | 0, k, q + 1, hk, _ => by
  rw [Gi, Nd, Bir, if_neg (by rw [Af]; simp; omega), show k = N % 8 by omega]
 | j + 1, k, q + 1, hk, hq => by
  have hp : 2 ^ k ≤ 2 ^ 8 := Nat.pow_le_pow_right (by omega) (by omega)
  have e : Bp ((2 ^ k : Nat) : Int) 2 = ((2 ^ (k + 1) : Nat) : Int) := by
   rw [Nat.pow_succ]
   generalize 2 ^ k = K at *
   rw [Ih (by omega) (by omega)]; omega
  rw [Gi, Nd, Bir, if_pos (by rw [Af]; simp; omega), e, Ag (by omega) (by omega)]
  exact Bdb bit N l j (k + 1) q (by omega) (by omega)
theorem Arh (p : List UInt8) (a n j : Nat) (h : j < (n + 7) / 8) : (Aa4 p a n)[j]'(by rw [Lq]; exact h) = UInt8.ofNat (Bq p (a + 8 * j) (min 8 (n - 8 * j))) := by simp [Aa4]
theorem Az1 (p : List UInt8) (a t : Nat) (h : t ≤ 8) : Bq p a t < 256 := by
 have h1 := Ou p t a
 have h2 : 2 ^ t ≤ 2 ^ 8 := Nat.pow_le_pow_right (by omega) h
 omega
def room (p : List UInt8) (a n : Nat) : List UInt8 := if n % 8 = 0 then Aa4 p a n ++ [0] else Aa4 p a n
theorem Vj (p : List UInt8) (a n : Nat) : (room p a n).length = n / 8 + 1 := by
 rw [room]; split <;> simp [Lq] <;> omega
theorem Bay (p : List UInt8) (a n j : Nat) (h : j < n / 8 + 1) : (room p a n)[j]'(by rw [Vj]; exact h) = UInt8.ofNat (Bq p (a + 8 * j) (min 8 (n - 8 * j))) := by
 have h0 : (room p a n)[j]? = some (UInt8.ofNat (Bq p (a + 8 * j) (min 8 (n - 8 * j)))) := by
  rw [room]
  split
  ·by_cases hj : j < (n + 7) / 8
   ·rw [List.getElem?_append_left (by rw [Lq]; exact hj), List.getElem?_eq_getElem (by rw [Lq]; exact hj), Arh p a n j hj]
   ·rw [List.getElem?_append_right (by rw [Lq]; omega), Lq, show j - (n + 7) / 8 = 0 by omega, show n - 8 * j = 0 by omega]; rfl
  ·rw [List.getElem?_eq_getElem (by rw [Lq]; omega), Arh p a n j (by omega)]
 rw [List.getElem?_eq_getElem (by rw [Vj]; exact h)] at h0
 exact Option.some.inj h0
theorem Ba9 (p : List UInt8) (a n T : Nat) (h1 : 1 ≤ T) (h : n % 8 + T ≤ 8) : (room p a n).set (n / 8) (UInt8.ofNat (Bq p (a + 8 * (n / 8)) (n % 8 + T))) = Aa4 p a (n + T) := by
 apply List.ext_getElem (by rw [List.length_set, Vj, Lq]; omega)
 intro j g1 g2
 rw [List.length_set, Vj] at g1
 rw [List.getElem_set, Arh p a (n + T) j (by rw [Lq] at g2; exact g2)]
 split
 ·rename_i e; subst e; rw [show min 8 (n + T - 8 * (n / 8)) = n % 8 + T by omega]
 ·rw [Bay p a n j g1, show min 8 (n - 8 * j) = 8 by omega, show min 8 (n + T - 8 * j) = 8 by omega]
theorem Ava (p : List UInt8) (a n : Nat) : (room p a n)[n / 8]'(by rw [Vj]; omega) = UInt8.ofNat (Bq p (a + 8 * (n / 8)) (n % 8)) := by
 rw [Bay p a n _ (by omega), show min 8 (n - 8 * (n / 8)) = n % 8 by omega]
theorem Bjf (p : List UInt8) (a n : Nat) (hn : n ≤ 400000) : Nx (Aa4 p a n) (n : Int) ((Hu p (a + n) : Nat) : Int) = some (Aa4 p a (n + 1), ((n + 1 : Nat) : Int)) := by
 have hb := Vd p (a + n)
 have hp : 2 ^ (n % 8) ≤ 2 ^ 7 := Nat.pow_le_pow_right (by omega) (by omega)
 have hroom : Nx (Aa4 p a n) (n : Int) ((Hu p (a + n) : Nat) : Int) = Na ((Hu p (a + n) : Nat) : Int) (n : Int) (room p a n) := by
  rw [Nx, Un, Bir, room]
  by_cases h0 : n % 8 = 0
  ·rw [if_pos (by rw [Cd, h0]; rfl), Gp (by rw [Lq]; simp; omega), Aa, if_pos h0]
  ·rw [if_neg (by rw [Cd]; simp; omega), if_neg h0]
 have hl := Bdb ((Hu p (a + n) : Nat) : Int) n (room p a n) (n % 8) 0 Ba (by omega) (by have := Ay; omega)
 rw [hroom, Na, Uw, Ut]
 refine Eq.trans hl ?_
 have hg : Aj (room p a n) ((n / 8 : Nat) : Int) = some (UInt8.ofNat (Bq p (a + 8 * (n / 8)) (n % 8))) := by
  rw [Dl (by rw [Vj]; omega), Ava]
 have hlt := Az1 p (a + 8 * (n / 8)) (n % 8 + 1) (by omega)
 have hsn := Avp p (a + 8 * (n / 8)) (n % 8)
 rw [show a + 8 * (n / 8) + n % 8 = a + n by omega] at hsn
 have hm : Bp ((Hu p (a + n) : Nat) : Int) ((2 ^ (n % 8) : Nat) : Int) = ((2 ^ (n % 8) * Hu p (a + n) : Nat) : Int) := by
  have hle : 2 ^ (n % 8) * Hu p (a + n) ≤ 2 ^ 7 * 1 := Nat.mul_le_mul hp (by omega)
  rw [Bkd, ← Int.natCast_mul, Bu (by omega) (by rw [Nat.mul_comm]; omega), Nat.mul_comm]
 have hx : Ae (UInt8.ofNat (Bq p (a + 8 * (n / 8)) (n % 8))) (Ad (((2 ^ (n % 8) * Hu p (a + n) : Nat) : Int)) : UInt8) = UInt8.ofNat (Bq p (a + 8 * (n / 8)) (n % 8 + 1)) := by
  rw [Bl3, Biy, hsn, UInt8.ofNat_add]
 rw [Mw, Ac1, Bpo _ (by omega), hg, Aa, Aa, Aa, hm, hx, Us _ (by rw [Vj]; omega), Aa, Ba9 p a n 1 (by omega) (by omega), Ag (by omega) (by omega)]; rfl
theorem An0 (p : List UInt8) (N : Int) (a n : Nat) (ha : a + n ≤ 8 * p.length) (hp : p.length ≤ 1000000) (hn : n ≤ 300000) : ∀ (j m q : Nat), m + j = n → j < q → Dy ((a + n : Nat) : Int) p N q ((a + m : Nat) : Int) (m : Int) (Aa4 p a m) = some (Aa4 p a n, (n : Int))
 | 0, m, q + 1, hm, _ => by
  rw [Dy, Ie, if_neg (by rw [Af]; simp; omega), show m = n by omega]; rfl
 | j + 1, m, q + 1, hm, hq => by
  rw [Dy, Ie, if_pos (by rw [Af]; simp; omega), Apl p N (a + m) (by omega) (by omega), Aa, Bjf p a m (by omega), Aa]
  simp only
  rw [Ag (by omega) (by omega)]
  exact An0 p N a n ha hp hn j (m + 1) q (by omega) (by omega)
theorem Bap (p : List UInt8) (N : Int) (a n : Nat) (ha : a + n ≤ 8 * p.length) (hp : p.length ≤ 1000000) (hn : n ≤ 300000) : Sj p N (a : Int) ((a + n : Nat) : Int) = some (Aa4 p a n, (n : Int)) := by
 have := An0 p N a n ha hp hn n 0 Ba (by omega) (by have := Ay; omega)
 exact this
end Go.Pl
set_option linter.unusedVariables false
set_option linter.unusedSimpArgs false
namespace Go.Pl
open Go Go.Lv
theorem Bof {t : Nat} (h : t ≤ 8) : Am (Eu (1 : UInt64) t) (1 : UInt64) = UInt64.ofNat (2 ^ t - 1) := by
 have : t = 0 ∨ t = 1 ∨ t = 2 ∨ t = 3 ∨ t = 4 ∨ t = 5 ∨ t = 6 ∨ t = 7 ∨ t = 8 := by omega
 rcases this with rfl | rfl | rfl | rfl | rfl | rfl | rfl | rfl | rfl <;> decide
theorem Bqg (v : UInt64) {t : Nat} (h : t ≤ 8) : (He v (Am (Eu (1 : UInt64) t) (1 : UInt64))).toNat = v.toNat % 2 ^ t := by
 have hp : 2 ^ t ≤ 2 ^ 8 := Nat.pow_le_pow_right (by omega) h
 rw [Bof h, Auc, UInt64.toNat_and, UInt64.toNat_ofNat', Nat.mod_eq_of_lt (by have := Nat.pow_pos (n := t) (show 0 < 2 by omega); omega), Nat.and_two_pow_sub_one_eq_mod]
theorem or8 {v w i : Nat} (hv : v < 2 ^ i) (hw : w * 2 ^ i < 256) (hi : i < 8) : gor (UInt8.ofNat v) (Eu (UInt8.ofNat w) i) = UInt8.ofNat (v + w * 2 ^ i) := by
 have hp : 2 ^ i ≤ 2 ^ 8 := Nat.pow_le_pow_right (by omega) (by omega)
 have hpos : 0 < 2 ^ i := Nat.pow_pos (by omega)
 have hw2 : w < 256 := Nat.lt_of_le_of_lt (Nat.le_mul_of_pos_right w hpos) hw
 rw [Boq]; apply UInt8.toNat_inj.1
 have e1 : (UInt8.ofNat v).toNat = v := by rw [UInt8.toNat_ofNat', Nat.mod_eq_of_lt (by omega)]
 have e2 : (UInt8.ofNat w).toNat = w := by rw [UInt8.toNat_ofNat', Nat.mod_eq_of_lt (by omega)]
 rw [UInt8.toNat_or, Bms, e1, e2, Nat.mod_eq_of_lt hw, Nat.mul_comm w, Nat.or_comm, ← Nat.two_pow_add_eq_or_of_lt hv, UInt8.toNat_ofNat', Nat.add_comm v]
 rw [Nat.mul_comm] at hw
 have hb : 2 ^ i * w + v < 256 := by
  rw [Nat.two_pow_add_eq_or_of_lt hv]
  exact Nat.or_lt_two_pow (n := 8) hw (by omega)
 rw [Nat.mod_eq_of_lt hb]
theorem Bj0 (p : List UInt8) (a n T : Nat) (h : T ≤ n) (hn : n ≤ 64) : Cj (Tk p a n) T = Tk p (a + T) (n - T) := by
 apply UInt64.toNat_inj.1
 rw [Ab6, Ym p a n hn, Ym p (a + T) (n - T) (by omega)]
 have := Ou p T a
 conv => lhs; rw [show n = T + (n - T) by omega, Ae1, Nat.add_mul_div_left _ _ (Nat.pow_pos (by omega)), Nat.div_eq_of_lt this, Nat.zero_add]
theorem Bio (p : List UInt8) (a n T : Nat) (h : T ≤ n) (hn : n ≤ 64) : (Tk p a n).toNat % 2 ^ T = Bq p a T := by
 have := Ou p T a
 rw [Ym p a n hn]
 conv => lhs; rw [show n = T + (n - T) by omega, Ae1, Nat.add_mul_mod_self_left, Nat.mod_eq_of_lt this]
theorem As4 (bk : Int → Int → List UInt8 → Option (List UInt8 × Int × Int)) (to' : Int) (p : List UInt8) (N fr : Int) (r6 : UInt64) (a : Nat) : ∀ (j m q : Nat), m + j ≤ 300000 → j ≤ 64 → j < q →
  Lk bk to' p N fr r6 q (Tk p (a + m) j) (j : Int) (m : Int) (Aa4 p a m) = Adh bk to' p N fr ((m + j : Nat) : Int) (Aa4 p a (m + j))
 | 0, m, q + 1, _, _, _ => by
  rw [Lk, Adl, if_neg (by rw [Bc]; simp)]; rfl
 | j + 1, m, q + 1, hm, hj, hq => by
  have hroom : Lk bk to' p N fr r6 (q + 1) (Tk p (a + m) (j + 1)) ((j + 1 : Nat) : Int) (m : Int) (Aa4 p a m) = Adm (Lk bk to' p N fr r6 q) to' fr p N r6 (Tk p (a + m) (j + 1)) ((j + 1 : Nat) : Int) (m : Int) (room p a m) := by
   rw [Lk, Adl, if_pos (by rw [Bc]; simp), Az4 m (by omega), room]
   by_cases h0 : m % 8 = 0
   ·rw [if_pos (by rw [Cd, h0]; rfl), Gp (by rw [Lq]; simp; omega), Aa, if_pos h0]
   ·rw [if_neg (by rw [Cd]; simp; omega), if_neg h0]
  have hl : Am (Ac (room p a m)) 1 = ((m / 8 : Nat) : Int) := by
   rw [Ac, Vj, Bt (by omega) (by omega)]; omega
  have e2 : Fy ((j + 1 : Nat) : Int) (Am (8 : Int) ((m % 8 : Nat) : Int)) = ((min (j + 1) (8 - m % 8) : Nat) : Int) := by
   rw [Af8, Bt (by omega) (by omega)]; omega
  rw [hroom, Adm, Aib, Az4 m (by omega), e2, hl]
  generalize hT : min (j + 1) (8 - m % 8) = T
  have hT1 : 1 ≤ T := by omega
  have hT8 : m % 8 + T ≤ 8 := by omega
  have hg : Aj (room p a m) ((m / 8 : Nat) : Int) = some (UInt8.ofNat (Bq p (a + 8 * (m / 8)) (m % 8))) := by
   rw [Dl (by rw [Vj]; omega), Ava]
  have z1 : (GI.toZ ((m % 8 : Nat) : Int)).toNat = m % 8 := rfl
  have z2 : (GI.toZ ((T : Nat) : Int)).toNat = T := rfl
  have hlt := Az1 p (a + 8 * (m / 8)) (m % 8 + T) (by omega)
  have hadd := Ae1 p (m % 8) T (a + 8 * (m / 8))
  rw [show a + 8 * (m / 8) + m % 8 = a + m by omega] at hadd
  have hbyte : (Ad (He (Tk p (a + m) (j + 1)) (Am (Eu (1 : UInt64) T) (1 : UInt64))) : UInt8) = UInt8.ofNat (Bq p (a + m) T) := by
   rw [Ai4, Bqg _ (by omega), Bio p (a + m) (j + 1) T (by omega) hj]
  have hnew : gor (UInt8.ofNat (Bq p (a + 8 * (m / 8)) (m % 8))) (Eu (UInt8.ofNat (Bq p (a + m) T)) (m % 8)) = UInt8.ofNat (Bq p (a + 8 * (m / 8)) (m % 8 + T)) := by
   rw [or8 (Ou _ _ _) (by rw [Nat.mul_comm]; omega) (by omega), hadd, Nat.mul_comm (2 ^ (m % 8))]
  rw [hg, z1, z2, hbyte]
  simp only [Aa]
  rw [Cq (by rw [Dm]; simp), Aa, Cq (by rw [Dm]; simp; omega), Aa, hnew, Us _ (by rw [Vj]; omega), Aa, Ba9 p a m T hT1 hT8, Ain, Aou, Az4 m (by omega), e2, hT, Cq (by rw [Dm]; simp), Aa, z2, Bj0 p (a + m) (j + 1) T (by omega) hj, Bt (by omega) (by omega), Ag (by omega) (by omega)]
  have ih := As4 bk to' p N fr r6 a (j + 1 - T) (m + T) q (by omega) (by omega) (by omega)
  rw [show m + T + (j + 1 - T) = m + (j + 1) by omega] at ih
  rw [← ih, show a + m + T = a + (m + T) by omega, show ((j + 1 : Nat) : Int) - ((T : Nat) : Int) = ((j + 1 - T : Nat) : Int) by omega, show (m : Int) + ((T : Nat) : Int) = ((m + T : Nat) : Int) by omega]
theorem Bas (p : List UInt8) (N : Int) (a n : Nat) (ha : a + n ≤ 8 * p.length) (hp : p.length ≤ 1000000) (hn : n ≤ 300000) : ∀ (j m f q : Nat), (f = m ∨ n ≤ f ∧ m = n) → m + j = n → f ≤ n + 64 → j < q → Ty ((a + n : Nat) : Int) p N q ((a + f : Nat) : Int) (m : Int) (Aa4 p a m) = some (Aa4 p a n, (n : Int), 0)
 | j, m, f, q + 1, hf, hm, hf2, hq => by
  rw [Ty, Ajb]
  by_cases hlt : f < n
  ·obtain rfl : f = m := by omega
   have e1 : Fy (64 : Int) (Am ((a + n : Nat) : Int) ((a + f : Nat) : Int)) = ((min 64 (n - f) : Nat) : Int) := by
    rw [Af8, Bt (by omega) (by omega)]; omega
   rw [if_pos (by rw [Af]; simp; omega), e1, get_eq p N (a + f) _ (by omega) (by omega) hp, Aa, Ail]
   have h1 := As4 (Ty ((a + n : Nat) : Int) p N q) ((a + n : Nat) : Int) p N ((a + f : Nat) : Int) (Tk p (a + f) (min 64 (n - f))) a (min 64 (n - f)) f Ba (by omega) (by omega) (by have := Ay; omega)
   refine Eq.trans h1 ?_
   rw [Adh, An7, Ag (by omega) (by omega), show ((a + f : Nat) : Int) + 64 = ((a + (f + 64) : Nat) : Int) by omega]
   exact Bas p N a n ha hp hn (j - min 64 (n - f)) (f + min 64 (n - f)) (f + 64) q (by omega) (by omega) (by omega) (by omega)
  ·rw [if_neg (by rw [Af]; simp; omega), Ah5, An2, show m = n by omega]
theorem Bob {p : List UInt8} {N : Nat} (h : okB p N) (a n : Nat) (ha : a + n ≤ N) (hn : n ≤ 300000) : Akb p (N : Int) (a : Int) ((a + n : Nat) : Int) = some (Aa4 p a n, (n : Int), 0) := by
 obtain ⟨h1, h2, h3⟩ := h
 have := Bas p N a n (by omega) (by omega) hn n 0 0 Ba (by omega) (by omega) (by omega) (by have := Ay; omega)
 rw [Akb, Aka, Adw ⟨h1, h2, h3⟩, Aa, if_neg (by rw [As]; simp), if_neg (by simp [Af, Bc]; omega), Ai7]
 exact this
end Go.Pl
set_option linter.unusedVariables false
set_option linter.unusedSimpArgs false
namespace Go.Pl
open Go Go.Lv
def Ev (p : List UInt8) : Nat → Nat → Nat
 | _, 0 => 0
 | a, m + 1 => if Hu p a = 1 then 1 + Ev p (a + 1) m else 0
theorem Afq (p : List UInt8) : ∀ (m a : Nat), Ev p a m ≤ m
 | 0, _ => Nat.le_refl _
 | m + 1, a => by rw [Ev]; split <;> have := Afq p m (a + 1) <;> omega
theorem Azq (p : List UInt8) : ∀ (m a : Nat), ∃ s, Bq p a m + 1 = 2 ^ (Ev p a m + 1) * s + 2 ^ Ev p a m ∧ (Ev p a m = m → s = 0)
 | 0, a => ⟨0, by simp [Bq, Ev], fun _ => rfl⟩
 | m + 1, a => by
  have hb := Vd p a
  obtain ⟨s, h1, h2⟩ := Azq p m (a + 1)
  by_cases h : Hu p a = 1
  ·refine ⟨s, ?_, fun e => h2 ?_⟩
   ·rw [Ev, if_pos h, Bq, h, show 1 + Ev p (a + 1) m + 1 = (Ev p (a + 1) m + 1) + 1 by omega, show 1 + Ev p (a + 1) m = Ev p (a + 1) m + 1 by omega, Nat.pow_succ, Nat.pow_succ (n := 2) (m := Ev p (a + 1) m)]
    rw [Nat.pow_succ] at h1
    generalize Bq p (a + 1) m = V at *
    generalize 2 ^ Ev p (a + 1) m = W at *
    have e1 : W * 2 * 2 * s = 2 * (W * 2 * s) := by rw [Nat.mul_right_comm (W * 2) 2 s, Nat.mul_comm]
    omega
   ·rw [Ev, if_pos h] at e; omega
  ·refine ⟨Bq p (a + 1) m, ?_, fun e => ?_⟩
   ·rw [Ev, if_neg h, Bq]; simp; omega
   ·rw [Ev, if_neg h] at e; omega
theorem Bl0 {n t s : Nat} (h : 2 ^ (t + 1) * s + 2 ^ t ≤ 2 ^ n) (ht : t < n) (x : Nat) (hx : x = 2 ^ n - (2 ^ (t + 1) * s + 2 ^ t)) : x &&& (2 ^ (t + 1) * s + 2 ^ t) = 2 ^ t := by
 have hpos : 0 < 2 ^ t := Nat.pow_pos (by omega)
 have hlt : 2 ^ t < 2 ^ (t + 1) := by rw [Nat.pow_succ]; omega
 have e : x = 2 ^ n - ((2 ^ (t + 1) * s + (2 ^ t - 1)) + 1) := by rw [hx]; congr 1; omega
 apply Nat.eq_of_testBit_eq
 intro i
 rw [Nat.testBit_and, e, Nat.testBit_two_pow_sub_succ (by omega), Nat.testBit_two_pow_mul_add _ (by omega), Nat.testBit_two_pow_mul_add _ hlt]
 by_cases hi : i < t + 1
 ·rw [if_pos hi, if_pos hi, Nat.testBit_two_pow_sub_one, Nat.testBit_two_pow]
  by_cases hit : t = i
  ·subst hit; simp; exact ht
  ·have : ¬ i = t := fun e => hit e.symm
   simp [hit]
 ·rw [if_neg hi, if_neg hi, Nat.testBit_two_pow]
  have : ¬ t = i := by omega
  simp [this]
theorem Bhf (a : UInt64) : (Ass a).toNat = 18446744073709551615 - a.toNat := by
 have h := a.toNat_lt
 have e : Ass a = UInt64.ofNat (BitVec.ofInt 64 18446744073709551615 ^^^ BitVec.ofInt 64 (a.toNat : Int)).toNat := Fv _
 have h1 : BitVec.ofInt 64 (a.toNat : Int) = a.toBitVec := Axc a
 have h2 : (BitVec.ofInt 64 18446744073709551615 : BitVec 64) = BitVec.allOnes 64 := by decide
 rw [e, UInt64.toNat_ofNat', h1, h2, BitVec.allOnes_xor, BitVec.toNat_not]
 show (18446744073709551616 - 1 - a.toNat) % 18446744073709551616 = 18446744073709551615 - a.toNat
 omega
theorem Bi7 (a : UInt64) : (An9 a).toNat = (18446744073709551616 - a.toNat) % 18446744073709551616 := by
 have h := a.toNat_lt
 have e : An9 a = UInt64.ofNat ((0 - (a.toNat : Int)) % 18446744073709551616).toNat := Axw _
 rw [e, UInt64.toNat_ofNat']
 show ((0 - (a.toNat : Int)) % 18446744073709551616).toNat % 18446744073709551616 = _
 omega
def Bpp : List UInt8 := [0, 1, 56, 2, 57, 49, 28, 3, 61, 58, 42, 50, 38, 29, 17, 4, 62, 47, 59, 36, 45, 43, 51, 22, 53, 39, 33, 30, 24, 18, 12, 5, 63, 55, 48, 27, 60, 41, 37, 16, 46, 35, 44, 21, 52, 32, 23, 11, 54, 26, 40, 15, 34, 20, 31, 10, 25, 14, 19, 9, 13, 8, 7, 6]
theorem Bfx : ∀ t : Fin 64, Aj Bpp (GI.toZ (Cj (Bp (UInt64.ofNat (2 ^ t.val)) (285870213051353865 : UInt64)) (GI.toZ (58 : UInt64)).toNat)) = some (UInt8.ofNat t.val) := by decide +kernel
theorem Bpg (x : UInt64) (t s : Nat) (ht : t < 64) (h : x.toNat + (2 ^ (t + 1) * s + 2 ^ t) = 18446744073709551616) : Es x = some (t : Int) := by
 have hpos : 0 < 2 ^ t := Nat.pow_pos (by omega)
 have hx : x.toNat = 2 ^ 64 - (2 ^ (t + 1) * s + 2 ^ t) := by show x.toNat = 18446744073709551616 - _; omega
 have hle : 2 ^ t ≤ 2 ^ 63 := Nat.pow_le_pow_right (by omega) (by omega)
 have hne : x ≠ 0 := by
  intro e
  rw [e] at h
  have h' : 2 ^ t * (2 * s + 1) = 2 ^ 64 := by
   rw [Nat.mul_add, Nat.mul_one, ← Nat.mul_assoc, ← Nat.pow_succ]
   show _ = 18446744073709551616
   simpa using h
  have h2 : 2 ^ 64 = 2 ^ t * 2 ^ (64 - t) := by rw [← Nat.pow_add]; congr 1; omega
  rw [h2] at h'
  have h3 := Nat.eq_of_mul_eq_mul_left hpos h'
  rw [show 64 - t = (63 - t) + 1 by omega, Nat.pow_succ] at h3
  omega
 have hx0 : x.toNat ≠ 0 := fun e => hne (UInt64.toNat_inj.1 e)
 have hl : He x (An9 x) = UInt64.ofNat (2 ^ t) := by
  apply UInt64.toNat_inj.1
  rw [Auc, UInt64.toNat_and, Bi7, show (18446744073709551616 - x.toNat) % 18446744073709551616 = 2 ^ (t + 1) * s + 2 ^ t by omega, Bl0 (n := 64) (by show _ ≤ 18446744073709551616; omega) ht _ hx, UInt64.toNat_ofNat', Nat.mod_eq_of_lt]
  exact Nat.lt_of_le_of_lt hle (by decide)
 have hb := Bfx ⟨t, ht⟩
 rw [Es, if_neg (by rw [Ara]; simpa using hne), hl]
 refine Eq.trans (congrArg (fun o => Option.bind o fun c => some (Ad c : Int)) hb) ?_
 rw [Aa, Ady, UInt8.toNat_ofNat', Nat.mod_eq_of_lt (by show t < 256; omega)]
theorem Bmw (p : List UInt8) (a m : Nat) (hm : m ≤ 48) : Es (Ass (Tk p a m)) = some ((Ev p a m : Nat) : Int) := by
 obtain ⟨s, h1, h2⟩ := Azq p m a
 have hle := Afq p m a
 have hlt := Ou p m a
 have h48 : 2 ^ m ≤ 2 ^ 48 := Nat.pow_le_pow_right (by omega) hm
 have hn : (Ass (Tk p a m)).toNat = 18446744073709551615 - Bq p a m := by rw [Bhf, Ym p a m (by omega)]
 have h3 : (281474976710656 : Nat) = 2 ^ 48 := rfl
 refine Bpg _ (Ev p a m) s (by omega) ?_
 rw [hn]; omega
def unS (p : List UInt8) (N a : Nat) : Int × Int × Int :=
 if Ev p a (min 48 (N - a)) < min 48 (N - a) then ((Ev p a (min 48 (N - a)) : Nat), ((a + Ev p a (min 48 (N - a)) + 1 : Nat) : Int), 0) else
 if Ev p a (min 48 (N - a)) = 48 then (48, ((a + 48 : Nat) : Int), 0) else (0, 0, 24)
theorem Bhj {p : List UInt8} {N : Nat} (h : okB p N) (a : Nat) (ha : a < N) : Aar p (N : Int) (a : Int) = some (unS p N a) := by
 have hN := h.1
 have e1 : Fy (48 : Int) (Am (N : Int) (a : Int)) = ((min 48 (N - a) : Nat) : Int) := by rw [Af8, Bt (by omega) (by omega)]; omega
 have hle := Afq p (min 48 (N - a)) a
 rw [Aar, Vi, Adw h, Aa, if_neg (by rw [As]; simp), if_neg (by rw [Af]; simp), if_neg (by rw [Dm]; simp; omega), e1, Apk h a _ (by omega), if_neg (by omega), Aa]
 simp only
 rw [Agt, Agk, if_neg (by rw [As]; simp), Bmw p a _ (by omega), Aa, Agf, Af6, e1, unS]
 by_cases h1 : Ev p a (min 48 (N - a)) < min 48 (N - a)
 ·rw [if_pos (by rw [Af]; simp; omega), if_pos h1, Ag (a := (a : Int)) (by omega) (by omega), show Ae (0 : Int) 1 = 1 by decide, Ag (by omega) (by omega)]
  congr 3; omega
 ·rw [if_neg (by rw [Af]; simp; omega), if_neg h1, Age, Agz]
  by_cases h2 : Ev p a (min 48 (N - a)) = 48
  ·rw [if_pos (by rw [Cd, h2]; rfl), if_pos h2, h2, Ag (a := (a : Int)) (by omega) (by omega), Ag (by omega) (by omega)]
   congr 3; omega
  ·rw [if_neg (by rw [Cd]; simp; omega), if_neg h2]; rfl
theorem Awf (p : List UInt8) : ∀ (m a : Nat), Ev p a m < m → Hu p (a + Ev p a m) ≠ 1
 | 0, _, h => by simp [Ev] at h
 | m + 1, a, h => by
  by_cases hb : Hu p a = 1
  ·rw [Ev, if_pos hb] at h ⊢
   have := Awf p m (a + 1) (by omega)
   rwa [show a + (1 + Ev p (a + 1) m) = a + 1 + Ev p (a + 1) m by omega]
  ·rw [Ev, if_neg hb]; exact hb
theorem Awp (p : List UInt8) : ∀ (m a k : Nat), k < Ev p a m → Hu p (a + k) = 1
 | 0, a, k, h => by simp [Ev] at h
 | m + 1, a, k, h => by
  by_cases hb : Hu p a = 1
  ·rw [Ev, if_pos hb] at h
   cases k with
   | zero => exact hb
   | succ k =>
    have := Awp p m (a + 1) k (by omega)
    rwa [show a + (k + 1) = a + 1 + k by omega]
  ·rw [Ev, if_neg hb] at h; omega
def unR (p : List UInt8) (N a : Nat) : Int × Int := if (unS p N a).2.2 = 0 then ((unS p N a).1, (unS p N a).2.1) else (-1, 0)
theorem Aro {p : List UInt8} {N : Nat} (h : okB p N) (a : Nat) (ha : a < N) : ∀ (j k q : Nat), k + j = Ev p a (min 48 (N - a)) → j < q → Gj (a : Int) p (N : Int) q (k : Int) = some (unR p N a)
 | 0, k, q + 1, hk, _ => by
  obtain ⟨hN, hl, hz⟩ := h
  have hle := Afq p (min 48 (N - a)) a
  have hk' : k = Ev p a (min 48 (N - a)) := by omega
  have e1 : Ae (a : Int) (k : Int) = ((a + k : Nat) : Int) := by rw [Ag (by omega) (by omega)]; omega
  have hend : My (a : Int) (k : Int) p (N : Int) = some (unR p N a) := by
   rw [My, Ac5, e1]
   by_cases h48 : k = 48
   ·have hu : unS p N a = (48, ((a + 48 : Nat) : Int), 0) := by rw [unS, ← hk', if_neg (by omega), if_pos h48]
    rw [if_pos (by rw [Cd, h48]; rfl), unR, hu, h48]; rfl
   ·rw [if_neg (by rw [Cd]; simp; omega)]
    by_cases hN2 : N ≤ a + k
    ·have hu : unS p N a = (0, 0, 24) := by rw [unS, ← hk', if_neg (by omega), if_neg h48]
     rw [if_pos (by rw [Dm]; simp; omega), unR, hu]; rfl
    ·have hu : unS p N a = (((k : Nat) : Int), ((a + k + 1 : Nat) : Int), 0) := by rw [unS, ← hk', if_pos (by omega)]
     rw [if_neg (by rw [Dm]; simp; omega), unR, hu, Ag (by omega) (by omega)]; rfl
  rw [Gj, Mz, e1]
  by_cases hc : a + k < N ∧ k < 48
  ·have hb := Vd p (a + k)
   have hs := Awf p (min 48 (N - a)) a (by omega)
   rw [← hk'] at hs
   rw [if_pos (by simp [Af]; omega), Apl p _ (a + k) (by omega) (by omega), Aa, if_neg (by rw [Cd]; simp; omega), hend]
  ·rw [if_neg (by simp [Af]; omega), hend]
 | j + 1, k, q + 1, hk, hq => by
  obtain ⟨hN, hl, hz⟩ := h
  have hle := Afq p (min 48 (N - a)) a
  have hb := Awp p (min 48 (N - a)) a k (by omega)
  have e1 : Ae (a : Int) (k : Int) = ((a + k : Nat) : Int) := by rw [Ag (by omega) (by omega)]; omega
  rw [Gj, Mz, e1, if_pos (by simp [Af]; omega), Apl p _ (a + k) (by omega) (by omega), Aa, hb, if_pos (by decide), Ag (by omega) (by omega)]
  exact Aro ⟨hN, hl, hz⟩ a ha j (k + 1) q (by omega) (by omega)
theorem Bjk {p : List UInt8} {N : Nat} (h : okB p N) (a : Nat) (ha : a < N) : Aam p (N : Int) (a : Int) = some (unR p N a) := by
 have hle := Afq p (min 48 (N - a)) a
 have := Aro h a ha (Ev p a (min 48 (N - a))) 0 Ba (by omega) (by have := Ay; omega)
 exact this
end Go.Pl
set_option linter.unusedVariables false
set_option linter.unusedSimpArgs false
namespace Go.Pl
open Go Go.Lv
theorem Bhe {p : List UInt8} {N a : Nat} (h : Ev p a (min 48 (N - a)) < min 48 (N - a)) : unS p N a = (((Ev p a (min 48 (N - a)) : Nat) : Int), ((a + Ev p a (min 48 (N - a)) + 1 : Nat) : Int), 0) := by rw [unS, if_pos h]
theorem Bip {p : List UInt8} {N a : Nat} (h : ¬ Ev p a (min 48 (N - a)) < min 48 (N - a)) (h2 : Ev p a (min 48 (N - a)) = 48) : unS p N a = (48, ((a + 48 : Nat) : Int), 0) := by rw [unS, if_neg h, if_pos h2]
theorem Bhi {p : List UInt8} {N a : Nat} (h : ¬ Ev p a (min 48 (N - a)) < min 48 (N - a)) (h2 : ¬ Ev p a (min 48 (N - a)) = 48) : unS p N a = (0, 0, 24) := by rw [unS, if_neg h, if_neg h2]
theorem Be2 {p : List UInt8} {N : Nat} (h : okB p N) (a : Nat) (ha : N ≤ a) : Aar p (N : Int) (a : Int) = some (0, 0, 24) := by
 rw [Aar, Vi, Adw h, Aa, if_neg (by rw [As]; simp), if_neg (by rw [Af]; simp), if_pos (by rw [Dm]; simp; omega)]
def rcS (p : List UInt8) (N a k : Nat) : UInt32 × Int × Int :=
 if N ≤ a then (0, 0, 24) else
 if Ev p a (min 48 (N - a)) < min 48 (N - a) then
  (if N < a + Ev p a (min 48 (N - a)) + 1 + k then (0, 0, 24) else (UInt32.ofNat (Ev p a (min 48 (N - a)) * 2 ^ k + Bq p (a + Ev p a (min 48 (N - a)) + 1) k), ((a + Ev p a (min 48 (N - a)) + 1 + k : Nat) : Int), 0))
 else if Ev p a (min 48 (N - a)) = 48 then
  (if N < a + 48 + 32 then (0, 0, 24) else if Bq p (a + 48) 32 / 2 ^ k < 48 then (0, 0, 12) else (UInt32.ofNat (Bq p (a + 48) 32), ((a + 48 + 32 : Nat) : Int), 0))
 else (0, 0, 24)
theorem Aoo {p : List UInt8} {a n : Nat} (h : n ≤ 32) : (Ad (Tk p a n) : UInt32) = UInt32.ofNat (Bq p a n) := by
 have e : (Ad (Tk p a n) : UInt32) = UInt32.ofNat (Tk p a n).toNat := by simp only [Ad, Gt, Dr]
 rw [e, Ym p a n (by omega)]
theorem Ai5 {n : Nat} (h : n < 4294967296) : (UInt32.ofNat n).toNat = n := by rw [UInt32.toNat_ofNat']; exact Nat.mod_eq_of_lt h
theorem Aze (p : List UInt8) (a : Nat) {n : Nat} (h : n ≤ 32) : Bq p a n < 4294967296 := by
 have h1 := Ou p n a
 have h2 : 2 ^ n ≤ 2 ^ 32 := Nat.pow_le_pow_right (by omega) h
 omega
theorem Bnq {q v k : Nat} (hq : q < 48) (hv : v < 2 ^ k) (hk : k ≤ 24) : gor (Eu (Ad (q : Int) : UInt32) k) (UInt32.ofNat v) = UInt32.ofNat (q * 2 ^ k + v) := by
 have hp : 2 ^ k ≤ 2 ^ 24 := Nat.pow_le_pow_right (by omega) hk
 have h1 : q * 2 ^ k ≤ 47 * 2 ^ 24 := Nat.mul_le_mul (by omega) hp
 rw [Bmv]; apply UInt32.toNat_inj.1
 rw [UInt32.toNat_or, Aub, Awl, Ai5 (by omega), Ai5 (n := v) (by omega), Nat.mod_eq_of_lt (by omega), Nat.mul_comm q, ← Nat.two_pow_add_eq_or_of_lt hv, Ai5 (by rw [Nat.mul_comm]; omega)]
theorem Bm3 {p : List UInt8} {N : Nat} (h : okB p N) (a k : Nat) (hk : k ≤ 24) : Alo p (N : Int) (a : Int) (k : Int) = some (rcS p N a k) := by
 have hN := h.1
 rw [Alo, Aik, Adw h, Aa, if_neg (by rw [As]; simp), if_neg (by simp [Af, Bc]; omega)]
 by_cases ha : N ≤ a
 ·rw [Be2 h a ha, Aa, rcS, if_pos ha]; rfl
 have hle := Afq p (min 48 (N - a)) a
 rw [Bhj h a (by omega), Aa]
 by_cases h1 : Ev p a (min 48 (N - a)) < min 48 (N - a)
 ·have hS : rcS p N a k = if N < a + Ev p a (min 48 (N - a)) + 1 + k then (0, 0, 24) else (UInt32.ofNat (Ev p a (min 48 (N - a)) * 2 ^ k + Bq p (a + Ev p a (min 48 (N - a)) + 1) k), ((a + Ev p a (min 48 (N - a)) + 1 + k : Nat) : Int), 0) := by rw [rcS, if_neg ha, if_pos h1]
  rw [Bhe h1, hS]
  generalize Ev p a (min 48 (N - a)) = q at *
  simp only
  rw [if_neg (by rw [As]; simp), if_neg (by rw [Cd]; simp; omega), Ado, Ai2, Apk h _ k (by omega), Aa]
  by_cases h2 : N < a + q + 1 + k
  ·rw [if_pos h2, if_pos h2]; rfl
  ·rw [if_neg h2, if_neg h2]
   simp only
   have z : (GI.toZ (k : Int)).toNat = k := rfl
   rw [if_neg (by rw [As]; simp), if_pos (by rw [Af]; simp; omega), Cq (by rw [Dm]; simp), Aa, z, Aoo (by omega), Bnq (by omega) (Ou _ _ _) hk, Ag (by omega) (by omega)]; rfl
 ·by_cases h2 : Ev p a (min 48 (N - a)) = 48
  ·have hS : rcS p N a k = if N < a + 48 + 32 then (0, 0, 24) else if Bq p (a + 48) 32 / 2 ^ k < 48 then (0, 0, 12) else (UInt32.ofNat (Bq p (a + 48) 32), ((a + 48 + 32 : Nat) : Int), 0) := by rw [rcS, if_neg ha, if_neg h1, if_pos h2]
   have hg := Apk h (a + 48) 32 (by omega)
   rw [Bip h1 h2, hS]
   simp only
   rw [if_neg (by rw [As]; simp), if_pos (by rw [Cd]; rfl), Ado, Ai2]
   refine Eq.trans (congrArg (fun o => Option.bind o _) hg) ?_
   rw [Aa]
   by_cases h3 : N < a + 48 + 32
   ·rw [if_pos h3, if_pos h3]; rfl
   ·rw [if_neg h3, if_neg h3]
    simp only
    have z : (GI.toZ (k : Int)).toNat = k := rfl
    have hv := Aze p (a + 48) (n := 32) (by omega)
    rw [if_neg (by rw [As]; simp), if_neg (by rw [Af]; simp), Ah7, Cq (by rw [Dm]; simp), Aa, Aa, z, Aoo (by omega), Blb]
    have e : (decide ((48 : UInt32).toNat ≤ (Cj (UInt32.ofNat (Bq p (a + 48) 32)) k).toNat)) = decide (¬ Bq p (a + 48) 32 / 2 ^ k < 48) := by
     rw [Ag8, Ai5 hv]; simp
    rw [e]
    by_cases h4 : Bq p (a + 48) 32 / 2 ^ k < 48
    ·rw [if_pos (by simp [h4]), if_pos h4]
    ·rw [if_neg (by simp; omega), if_neg h4, Ag (by omega) (by omega)]; rfl
  ·rw [Bhi h1 h2, rcS, if_neg ha, if_neg h1, if_neg h2]; rfl
theorem Ath (k : Nat) (hk : k ≤ 63) : ∀ (j i q : Nat), i + j = k → j < q → Fa (k : Int) q (UInt64.ofNat (2 ^ i)) (i : Int) = some (UInt64.ofNat (2 ^ k))
 | 0, i, q + 1, hi, _ => by
  rw [Fa, Kq, if_neg (by rw [Af]; simp; omega), show i = k by omega]; rfl
 | j + 1, i, q + 1, hi, hq => by
  have e : Bp (UInt64.ofNat (2 ^ i)) (2 : UInt64) = UInt64.ofNat (2 ^ (i + 1)) := by
   rw [Ab2, Nat.pow_succ, UInt64.ofNat_mul]; rfl
  rw [Fa, Kq, if_pos (by rw [Af]; simp; omega), Ag (by omega) (by omega), e]
  exact Ath k hk j (i + 1) q (by omega) (by omega)
theorem Aby (k : Nat) (hk : k ≤ 63) : Dk (k : Int) = some (UInt64.ofNat (2 ^ k)) :=
 Ath k hk k 0 Ba (by omega) (by have := Ay; omega)
theorem Afz {k : Nat} (hk : k ≤ 63) : (UInt64.ofNat (2 ^ k)).toNat = 2 ^ k := by
 have hp : 2 ^ k ≤ 2 ^ 63 := Nat.pow_le_pow_right (by omega) hk
 rw [UInt64.toNat_ofNat', Nat.mod_eq_of_lt (by omega)]
theorem Bkm (v : UInt32) (k : Nat) (hk : k ≤ 24) : Rp v (k : Int) = some ((min 48 (v.toNat / 2 ^ k) : Nat) : Int) := by
 have hpos : 0 < 2 ^ k := Nat.pow_pos (by omega)
 have hv := v.toNat_lt
 rw [Rp, Aby k (by omega), Aa, Cq (by rw [Adk]; simp only [bne_iff_ne, ne_eq, ← UInt64.toNat_inj, Afz (show k ≤ 63 by omega)]; simp), Aa]
 have e : (Dc (Ad v : UInt64) (UInt64.ofNat (2 ^ k))).toNat = v.toNat / 2 ^ k := by
  rw [Aoy, UInt64.toNat_div, Gl, Afz (by omega), UInt64.toNat_ofNat', Nat.mod_eq_of_lt (by omega)]
 have hle : v.toNat / 2 ^ k ≤ v.toNat := Nat.div_le_self _ _
 have e2 : Fy (48 : UInt64) (Dc (Ad v : UInt64) (UInt64.ofNat (2 ^ k))) = UInt64.ofNat (min 48 (v.toNat / 2 ^ k)) := by
  apply UInt64.toNat_inj.1
  rw [UInt64.toNat_ofNat', Nat.mod_eq_of_lt (by omega)]
  show (if _ then _ else _ : UInt64).toNat = _
  rw [show (GI.toZ (Dc (Ad v : UInt64) (UInt64.ofNat (2 ^ k)))) = ((v.toNat / 2 ^ k : Nat) : Int) by rw [Gt, e], show GI.toZ (48 : UInt64) = 48 from rfl]
  split
  ·rw [e]; omega
  ·show 48 = _; omega
 rw [e2, Apf (by rw [UInt64.toNat_ofNat', Nat.mod_eq_of_lt] <;> omega), UInt64.toNat_ofNat', Nat.mod_eq_of_lt (by omega)]
theorem Bhm {p : List UInt8} {N : Nat} (h : okB p N) (a k : Nat) (hk : k ≤ 24) : Tz p (N : Int) (a : Int) (k : Int) = some (rcS p N a k) := by
 obtain ⟨hN, hl, hz⟩ := h
 have h : okB p N := ⟨hN, hl, hz⟩
 rw [Tz, Ul]
 by_cases ha : N ≤ a
 ·rw [if_pos (by rw [Dm]; simp; omega), rcS, if_pos ha]
 have hle := Afq p (min 48 (N - a)) a
 rw [if_neg (by rw [Dm]; simp; omega), Bjk h a (by omega), Aa, unR]
 by_cases h1 : Ev p a (min 48 (N - a)) < min 48 (N - a)
 ·have hS : rcS p N a k = if N < a + Ev p a (min 48 (N - a)) + 1 + k then (0, 0, 24) else (UInt32.ofNat (Ev p a (min 48 (N - a)) * 2 ^ k + Bq p (a + Ev p a (min 48 (N - a)) + 1) k), ((a + Ev p a (min 48 (N - a)) + 1 + k : Nat) : Int), 0) := by rw [rcS, if_neg ha, if_pos h1]
  rw [Bhe h1, hS]
  generalize Ev p a (min 48 (N - a)) = q at *
  rw [if_pos rfl]
  simp only
  rw [if_neg (by rw [Cd]; simp; omega), Mq, Uq, Bt (by omega) (by omega)]
  by_cases h2 : N < a + q + 1 + k
  ·rw [if_pos (by simp [Af]; omega), if_pos h2]
  ·have hp : 2 ^ k ≤ 2 ^ 24 := Nat.pow_le_pow_right (by omega) hk
   have hm : q * 2 ^ k ≤ 47 * 2 ^ 24 := Nat.mul_le_mul (by omega) hp
   have hv := Ou p k (a + q + 1)
   have e : (Ad (Ae (Bp (Ad (q : Int) : UInt64) (UInt64.ofNat (2 ^ k))) (Tk p (a + q + 1) k)) : UInt32) = UInt32.ofNat (q * 2 ^ k + Bq p (a + q + 1) k) := by
    have e1 : Ae (Bp (Ad (q : Int) : UInt64) (UInt64.ofNat (2 ^ k))) (Tk p (a + q + 1) k) = UInt64.ofNat (q * 2 ^ k + Bq p (a + q + 1) k) := by
     rw [Acf, Ab2, Xa, Tk, UInt64.ofNat_add, UInt64.ofNat_mul]
    rw [e1]
    have e2 : ∀ x : UInt64, (Ad x : UInt32) = UInt32.ofNat x.toNat := fun x => by simp only [Ad, Gt, Dr]
    rw [e2, UInt64.toNat_ofNat', Nat.mod_eq_of_lt (by omega)]
   rw [if_neg (by simp [Af]; omega), if_neg h2, Amy p _ _ k (by omega) (by omega), Aa, if_pos (by rw [Af]; simp; omega), Aby k (by omega), Aa, e, Ag (by omega) (by omega)]; rfl
 ·by_cases h2 : Ev p a (min 48 (N - a)) = 48
  ·have hS : rcS p N a k = if N < a + 48 + 32 then (0, 0, 24) else if Bq p (a + 48) 32 / 2 ^ k < 48 then (0, 0, 12) else (UInt32.ofNat (Bq p (a + 48) 32), ((a + 48 + 32 : Nat) : Int), 0) := by rw [rcS, if_neg ha, if_neg h1, if_pos h2]
   rw [Bip h1 h2, hS, if_pos rfl]
   simp only
   rw [if_pos (by rw [Cd]; rfl), Mq, Uq, Bt (by omega) (by omega)]
   by_cases h3 : N < a + 48 + 32
   ·rw [if_pos (by simp [Af]; omega), if_pos h3]
   ·have hg := Amy p (N : Int) (a + 48) 32 (by omega) (by omega)
    have hv := Aze p (a + 48) (n := 32) (by omega)
    rw [if_neg (by simp [Af]; omega), if_neg h3]
    refine Eq.trans (congrArg (fun o => Option.bind o _) hg) ?_
    rw [Aa, if_neg (by rw [Af]; simp), Aoo (by omega), Bkm _ k hk, Aa, Ai5 hv]
    by_cases h4 : Bq p (a + 48) 32 / 2 ^ k < 48
    ·rw [if_pos (by rw [Af]; simp; omega), if_pos h4]
    ·rw [if_neg (by rw [Af]; simp; omega), if_neg h4, Ag (by omega) (by omega)]; rfl
  ·rw [Bhi h1 h2, rcS, if_neg ha, if_neg h1, if_neg h2]
   have e : (if ((0 : Int), (0 : Int), (24 : Int)).2.2 = 0 then (((0 : Int), (0 : Int), (24 : Int)).1, ((0 : Int), (0 : Int), (24 : Int)).2.1) else ((-1 : Int), (0 : Int))) = (-1, 0) := by decide
   rw [e]; rfl
theorem Bom {p : List UInt8} {N a k : Nat} {v : UInt32} {n : Int} (h : rcS p N a k = (v, n, 0)) : (a : Int) < n ∧ n ≤ N := by
 unfold rcS at h
 split at h
 ·simp at h
 split at h
 ·split at h
  ·simp at h
  ·simp only [Prod.mk.injEq] at h; omega
 ·split at h
  ·split at h
   ·simp at h
   ·split at h
    ·simp at h
    ·simp only [Prod.mk.injEq] at h; omega
  ·simp at h
end Go.Pl
set_option linter.unusedVariables false
set_option linter.unusedSimpArgs false
namespace Go.Pl
open Go Go.Lv
def okD (k l : Nat) (s t : UInt64) : Prop := k ≤ 24 ∧ l ≤ 24 ∧ s.toNat ≤ 68719476735 ∧ t.toNat ≤ 68719476735
theorem Azx (a b : UInt64) (h : a.toNat ≤ b.toNat) : Fy a b = a := by
 show (if _ then _ else _) = _
 rw [Gt, Gt, if_neg (by omega)]
theorem An8 (a : UInt64) : geq a a = true := by rw [Ara]; simp
theorem Bnz {k l : Nat} {s t : UInt64} (h : okD k l s t) : Aia (k : Int) (l : Int) s t = some 0 := by
 obtain ⟨h1, h2, h3, h4⟩ := h
 have e1 : Fy (Al6 (k : Int) 0) 24 = (k : Int) := by rw [Af8, Bby]; omega
 have e2 : Fy (Al6 (l : Int) 0) 24 = (l : Int) := by rw [Af8, Bby]; omega
 have e3 : Fy s (68719476735 : UInt64) = s := Azx _ _ (by simpa using h3)
 have e4 : Fy t (68719476735 : UInt64) = t := Azx _ _ (by simpa using h4)
 have e5 : ∀ a : Int, geq a a = true := fun a => by rw [Cd]; simp
 rw [Aia, Abh, Agq, Abe, Agn, Amh, e1, e2, e3, e4, e5, e5, An8, An8]; rfl
def Yx (s n : UInt64) : UInt64 := s + n - s / 16
def kS (k : Nat) (s : UInt64) : Nat := if 0 < k ∧ s.toNat < 2 ^ (k + 4) then k - 1 else if k < 24 ∧ 2 ^ (k + 5) < s.toNat then k + 1 else k
theorem Bm7 {k : Nat} (h : k ≤ 24) (s : UInt64) : kS k s ≤ 24 := by
 unfold kS
 by_cases h1 : 0 < k ∧ s.toNat < 2 ^ (k + 4)
 ·rw [if_pos h1]; omega
 ·rw [if_neg h1]; split <;> omega
theorem Bdv {k : Nat} {s : UInt64} (h : ¬ (0 < k ∧ s.toNat < 2 ^ (k + 4))) : (if k < 24 ∧ 2 ^ (k + 5) < s.toNat then ((k + 1 : Nat) : Int) else (k : Int)) = ((kS k s : Nat) : Int) := by
 rw [kS, if_neg h]; split <;> rfl
theorem Bem {s n : UInt64} (h : s.toNat ≤ 68719476735) (hn : n.toNat ≤ 4294967295) : (Yx s n).toNat ≤ 68719476735 := by
 have h1 := s.toNat_lt
 have e : (s + n).toNat = s.toNat + n.toNat := by rw [UInt64.toNat_add]; omega
 have e2 : (s / 16).toNat = s.toNat / 16 := by rw [UInt64.toNat_div]; rfl
 rw [Yx, UInt64.toNat_sub_of_le _ _ (by rw [UInt64.le_iff_toNat_le, e, e2]; omega), e, e2]; omega
theorem Ar5 (s n : UInt64) : Ae s (Am n (Cj s (GI.toZ (4 : UInt64)).toNat)) = Yx s n := by
 have e : Cj s (GI.toZ (4 : UInt64)).toNat = s / 16 := by
  apply UInt64.toNat_inj.1
  rw [Ab6, UInt64.toNat_div]; rfl
 rw [e, Acf, At7, Yx, UInt64.sub_eq_add_neg, UInt64.sub_eq_add_neg, UInt64.add_assoc]
theorem Bdn (s n : UInt64) : Am (Ae s n) (Dc s (16 : UInt64)) = Yx s n := by rw [Acf, At7, Aoy, Yx]
theorem Bo7 {k : Nat} (h : k ≤ 24) : (Eu (16 : UInt64) k).toNat = 2 ^ (k + 4) := by
 have hp : 2 ^ k ≤ 2 ^ 24 := Nat.pow_le_pow_right (by omega) h
 rw [Ag4, Nat.pow_add]
 show 16 * 2 ^ k % _ = 2 ^ k * 16
 rw [Nat.mod_eq_of_lt (by omega), Nat.mul_comm]
theorem Bos {k : Nat} (h : k ≤ 24) : (Eu (32 : UInt64) k).toNat = 2 ^ (k + 5) := by
 have hp : 2 ^ k ≤ 2 ^ 24 := Nat.pow_le_pow_right (by omega) h
 rw [Ag4, Nat.pow_add]
 show 32 * 2 ^ k % _ = 2 ^ k * 32
 rw [Nat.mod_eq_of_lt (by omega), Nat.mul_comm]
theorem Bm6 {k : Nat} {s : UInt64} (h : 0 < k) (h2 : s.toNat < 2 ^ (k + 4)) : kS k s = k - 1 := by rw [kS, if_pos ⟨h, h2⟩]
theorem Bng {k : Nat} {s : UInt64} (h : ¬ (0 < k ∧ s.toNat < 2 ^ (k + 4))) (h2 : k < 24) (h3 : 2 ^ (k + 5) < s.toNat) : kS k s = k + 1 := by rw [kS, if_neg h, if_pos ⟨h2, h3⟩]
theorem Bdr {k : Nat} {s : UInt64} (h : ¬ (0 < k ∧ s.toNat < 2 ^ (k + 4))) (h2 : ¬ (k < 24 ∧ 2 ^ (k + 5) < s.toNat)) : kS k s = k := by rw [kS, if_neg h, if_neg h2]
theorem Bnl {α : Type} (k : Nat) (hk : k ≤ 24) (s : UInt64) (f : Int → Option α) :
  (if (Hq (k : Int) (0 : Int)) = true then (
   Option.bind (Sa (Re (k : Int) (0 : Int))) fun _ =>
   if (Dg s (Eu (16 : UInt64) (GI.toZ (k : Int)).toNat)) = true then f (Am (k : Int) (1 : Int))
   else (if (Dg (k : Int) (24 : Int)) = true then (
    Option.bind (Sa (Re (k : Int) (0 : Int))) fun _ =>
    if (Hq s (Eu (32 : UInt64) (GI.toZ (k : Int)).toNat)) = true then f (Ae (k : Int) (1 : Int)) else f (k : Int))
    else f (k : Int)))
  else (if (Dg (k : Int) (24 : Int)) = true then (
    Option.bind (Sa (Re (k : Int) (0 : Int))) fun _ =>
    if (Hq s (Eu (32 : UInt64) (GI.toZ (k : Int)).toNat)) = true then f (Ae (k : Int) (1 : Int)) else f (k : Int))
    else f (k : Int))) = f ((kS k s : Nat) : Int) := by
 have z : (GI.toZ (k : Int)).toNat = k := rfl
 rw [z, Cq (by rw [Dm]; simp)]
 simp only [Aa]
 rw [Arf, Afp, Bo7 hk, Bos hk]
 by_cases h0 : 0 < k
 ·rw [if_pos (by rw [Bc]; simp; omega)]
  by_cases h1 : s.toNat < 2 ^ (k + 4)
  ·rw [if_pos (by simp [h1]), Bm6 h0 h1, Bt (by omega) (by omega)]; congr 1; omega
  ·rw [if_neg (by simp; omega)]
   by_cases h2 : k < 24
   ·rw [if_pos (by rw [Af]; simp; omega)]
    by_cases h3 : 2 ^ (k + 5) < s.toNat
    ·rw [if_pos (by simp [h3]), Bng (fun h => h1 h.2) h2 h3, Ag (by omega) (by omega)]; rfl
    ·rw [if_neg (by simp; omega), Bdr (fun h => h1 h.2) (fun h => h3 h.2)]
   ·rw [if_neg (by rw [Af]; simp; omega), Bdr (fun h => h1 h.2) (fun h => h2 h.1)]
 ·rw [if_neg (by rw [Bc]; simp; omega)]
  by_cases h2 : k < 24
  ·rw [if_pos (by rw [Af]; simp; omega)]
   by_cases h3 : 2 ^ (k + 5) < s.toNat
   ·rw [if_pos (by simp [h3]), Bng (fun h => h0 h.1) h2 h3, Ag (by omega) (by omega)]; rfl
   ·rw [if_neg (by simp; omega), Bdr (fun h => h0 h.1) (fun h => h3 h.2)]
  ·rw [if_neg (by rw [Af]; simp; omega), Bdr (fun h => h0 h.1) (fun h => h2 h.1)]
theorem Bev (k : Nat) (hk : k ≤ 24) (s n : UInt64) : Ci (k : Int) s n = some (((kS k (Yx s n) : Nat) : Int), Yx s n) := by
 have g1 : Ae (k : Int) 4 = ((k + 4 : Nat) : Int) := by rw [Ag (by omega) (by omega)]; omega
 have g2 : Ae (k : Int) 5 = ((k + 5 : Nat) : Int) := by rw [Ag (by omega) (by omega)]; omega
 have hp : Lo (k : Int) s n = some (if k < 24 ∧ 2 ^ (k + 5) < (Yx s n).toNat then ((k + 1 : Nat) : Int) else (k : Int), Yx s n) := by
  rw [Lo, Ab0, g2, Aby _ (by omega), Aa, Bdn, Afp, Afz (by omega)]
  by_cases h2 : k < 24
  ·rw [if_pos (by rw [Af]; simp; omega)]
   by_cases h3 : 2 ^ (k + 5) < (Yx s n).toNat
   ·rw [if_pos (by simp [h3]), if_pos ⟨h2, h3⟩, Ag (by omega) (by omega)]; rfl
   ·rw [if_neg (by simp; omega), if_neg (fun h => h3 h.2)]
  ·rw [if_neg (by rw [Af]; simp; omega), if_neg (fun h => h2 h.1)]
 rw [Ci, Te, g1, Aby _ (by omega), Aa, Bdn, Arf, Afz (by omega), hp]
 by_cases h0 : 0 < k
 ·rw [if_pos (by rw [Bc]; simp; omega)]
  by_cases h1 : (Yx s n).toNat < 2 ^ (k + 4)
  ·rw [if_pos (by simp [h1]), Bm6 h0 h1, Bt (by omega) (by omega)]; congr 2; omega
  ·rw [if_neg (by simp; omega), Bdv (fun h => h1 h.2)]
 ·rw [if_neg (by rw [Bc]; simp; omega), Bdv (fun h => h0 h.1)]
def n64 (v : UInt32) : UInt64 := UInt64.ofNat v.toNat
theorem Bg9 (v : UInt32) : (n64 v).toNat ≤ 4294967295 := by have := v.toNat_lt; rw [n64, UInt64.toNat_ofNat', Nat.mod_eq_of_lt (by omega)]; omega
def Aqq (k : Nat) (v : UInt32) : UInt32 := UInt32.ofNat (v.toNat - 2 ^ k)
def lK (l : Nat) (t : UInt64) (k : Nat) (v : UInt32) : Nat := if v.toNat < 2 ^ k then l else kS l (Yx t (n64 (Aqq k v)))
def lT (t : UInt64) (k : Nat) (v : UInt32) : UInt64 := if v.toNat < 2 ^ k then t else Yx t (n64 (Aqq k v))
theorem Bh3 {k l : Nat} {s t : UInt64} (h : okD k l s t) (v : UInt32) : okD (kS k (Yx s (n64 v))) (lK l t k v) (Yx s (n64 v)) (lT t k v) := by
 obtain ⟨h1, h2, h3, h4⟩ := h
 refine ⟨Bm7 h1 _, ?_, Bem h3 (Bg9 v), ?_⟩
 ·unfold lK; split; · exact h2
  exact Bm7 h2 _
 ·unfold lT; split; · exact h4
  exact Bem h4 (Bg9 _)
theorem Bok (k l : Nat) (s t : UInt64) (hk : k ≤ 24) (v : UInt32) : Nj (k : Int) (l : Int) s t v = some (decide (v.toNat < 2 ^ k)) := by
 have := v.toNat_lt
 rw [Nj, Aby k (by omega), Aa, Arf, Afz (by omega), Gl, UInt64.toNat_ofNat', Nat.mod_eq_of_lt (by omega)]
theorem left_eq (k l : Nat) (s t : UInt64) (hk : k ≤ 24) (v : UInt32) (h : ¬ v.toNat < 2 ^ k) : Cr (k : Int) (l : Int) s t v = some (Aqq k v) := by
 have := v.toNat_lt
 have e2 : ∀ x : UInt64, (Ad x : UInt32) = UInt32.ofNat x.toNat := fun x => by simp only [Ad, Gt, Dr]
 have e3 : (UInt64.ofNat v.toNat).toNat = v.toNat := by rw [UInt64.toNat_ofNat', Nat.mod_eq_of_lt (by omega)]
 rw [Cr, Aby k (by omega), Aa, e2, At7, Gl, UInt64.toNat_sub_of_le _ _ (by rw [UInt64.le_iff_toNat_le, Afz (by omega), e3]; omega), Afz (by omega), e3, Aqq]
theorem Bg0 {k l : Nat} {s t : UInt64} (h : okD k l s t) (v : UInt32) : Nb (k : Int) (l : Int) s t v = some (((kS k (Yx s (n64 v)) : Nat) : Int), ((lK l t k v : Nat) : Int), Yx s (n64 v), lT t k v) := by
 obtain ⟨h1, h2, h3, h4⟩ := h
 have hp : ∀ (r1 : Int) (r2 : UInt64), Jd v (k : Int) (l : Int) s t r1 r2 = some (((kS k (Yx s (n64 v)) : Nat) : Int), r1, Yx s (n64 v), r2) := by
  intro r1 r2
  rw [Jd, Xr, Gl, Bev k h1, Aa]; rfl
 rw [Nb, Iy, Bok k l s t h1, Aa]
 by_cases hv : v.toNat < 2 ^ k
 ·rw [if_neg (by simp [hv]), hp, lK, if_pos hv, lT, if_pos hv]
 ·rw [if_pos (by simp; omega), left_eq k l s t h1 v hv, Aa, Gl, Bev l h2, Aa]
  simp only
  rw [hp, lK, if_neg hv, lT, if_neg hv]; rfl
theorem Bhy (k l : Nat) (s t : UInt64) (hk : k ≤ 24) (v : UInt32) : Ai6 (k : Int) (l : Int) s t v = some (if v.toNat < 2 ^ k then (0, v) else (1, Aqq k v)) := by
 have hp : 2 ^ k ≤ 2 ^ 24 := Nat.pow_le_pow_right (by omega) hk
 have hpos : 0 < 2 ^ k := Nat.pow_pos (by omega)
 have hl := v.toNat_lt
 have z : (GI.toZ (k : Int)).toNat = k := rfl
 have e1 : geq (Cj v k) (0 : UInt32) = decide (v.toNat < 2 ^ k) := by
  rw [Awu, Bool.eq_iff_iff]
  simp only [beq_iff_eq, ← UInt32.toNat_inj, Ag8, decide_eq_true_eq]
  show _ / _ = 0 ↔ _
  rw [Nat.div_eq_zero_iff]; omega
 have e2 : ¬ v.toNat < 2 ^ k → Am v (Eu (1 : UInt32) k) = Aqq k v := by
  intro h
  have e3 : (Eu (1 : UInt32) k).toNat = 2 ^ k := by rw [Aub]; show 1 * 2 ^ k % _ = _; rw [Nat.mod_eq_of_lt (by omega), Nat.one_mul]
  apply UInt32.toNat_inj.1
  rw [Bbc, UInt32.toNat_sub_of_le _ _ (by rw [UInt32.le_iff_toNat_le, e3]; omega), e3, Aqq, Ai5 (by omega)]
 rw [Ai6, Cq (by rw [Dm]; simp), Aa, Aa, z, e1]
 by_cases h : v.toNat < 2 ^ k
 ·rw [if_pos (by simp [h]), if_pos h]
 ·rw [if_neg (by simp; omega), if_neg h, e2 h]
abbrev Rd := UInt32 × Int × Int × Int × UInt64 × UInt64 × Int
theorem Asa {k l : Nat} {s t : UInt64} (h : okD k l s t) (v : UInt32) (r : Int) : Adn (k : Int) (l : Int) s t v r = some (v, r, ((kS k (Yx s (n64 v)) : Nat) : Int), ((lK l t k v : Nat) : Int), Yx s (n64 v), lT t k v, 0) := by
 obtain ⟨h1, h2, h3, h4⟩ := h
 have hp : ∀ (x : Int) (y : UInt64), Yo v r (k : Int) s x y = some (v, r, ((kS k (Yx s (n64 v)) : Nat) : Int), x, Yx s (n64 v), y, 0) := by
  intro x y
  rw [Yo, Ait, Gl, Ar5, Bnl k h1]
  rw [Aiq, Aic, Agl, Al7, Gl, Ar5]; rfl
 rw [Adn, Ai0, Bhy k l s t h1, Aa]
 by_cases hv : v.toNat < 2 ^ k
 ·rw [if_pos hv]
  simp only
  rw [if_neg (by rw [Cd]; simp), hp, lK, if_pos hv, lT, if_pos hv]
 ·rw [if_neg hv]
  simp only
  rw [if_pos (by rw [Cd]; rfl), Gl, Ar5, Bnl l h2 _ (fun x => Yo v r (k : Int) s x (Yx t (UInt64.ofNat (Aqq k v).toNat))), hp, lK, if_neg hv, lT, if_neg hv]; rfl
def dgS (p : List UInt8) (N a k l : Nat) : UInt32 × Int × Int :=
 if N ≤ a then (0, 0, 24) else
 if Hu p a = 0 then (if N < a + 1 + k then (0, 0, 24) else (UInt32.ofNat (Bq p (a + 1) k), ((a + 1 + k : Nat) : Int), 0)) else
 if (rcS p N (a + 1) l).2.2 ≠ 0 then (0, 0, (rcS p N (a + 1) l).2.2) else
 if 4294967295 < (rcS p N (a + 1) l).1.toNat + 2 ^ k then (0, 0, 12) else (UInt32.ofNat ((rcS p N (a + 1) l).1.toNat + 2 ^ k), (rcS p N (a + 1) l).2.1, 0)
theorem Bod {p : List UInt8} {N a k l : Nat} (h : (dgS p N a k l).2.2 = 0) : (a : Int) < (dgS p N a k l).2.1 ∧ (dgS p N a k l).2.1 ≤ N := by
 revert h
 unfold dgS
 split
 ·simp
 split
 ·split
  ·simp
  ·simp only; omega
 ·split
  ·intro h; contradiction
  ·rename_i h1
   split
   ·simp
   ·intro _
    have := Bom (p := p) (N := N) (a := a + 1) (k := l) (v := (rcS p N (a + 1) l).1) (n := (rcS p N (a + 1) l).2.1) (by
     have e : (rcS p N (a + 1) l).2.2 = 0 := by simpa using h1
     rw [← e])
    simp only; omega
theorem Bk5 {p : List UInt8} {N : Nat} (h : okB p N) (a : Nat) {k l : Nat} {s t : UInt64} (hd : okD k l s t) : Ub p (N : Int) (a : Int) (k : Int) (l : Int) s t =
  some (if (dgS p N a k l).2.2 ≠ 0 then (0, 0, 0, 0, 0, 0, (dgS p N a k l).2.2) else ((dgS p N a k l).1, (dgS p N a k l).2.1, ((kS k (Yx s (n64 (dgS p N a k l).1)) : Nat) : Int), ((lK l t k (dgS p N a k l).1 : Nat) : Int), Yx s (n64 (dgS p N a k l).1), lT t k (dgS p N a k l).1, 0)) := by
 obtain ⟨h1, h2, h3, h4⟩ := hd
 have hd : okD k l s t := ⟨h1, h2, h3, h4⟩
 have hN := h.1
 have hg := Apk h a 1 (by omega)
 have hb := Vd p a
 rw [Ub, Ai3, Adw h, Aa, if_neg (by rw [As]; simp), Bnz hd, Aa, if_neg (by rw [As]; simp), Aix, Aih]
 refine Eq.trans (congrArg (fun o => Option.bind o _) hg) ?_
 rw [Aa]
 by_cases ha : N ≤ a
 ·have hS : dgS p N a k l = (0, 0, 24) := by rw [dgS, if_pos ha]
  rw [if_pos (by omega), hS]; rfl
 rw [if_neg (by omega)]
 simp only
 have e0 : geq (Tk p a 1) (0 : UInt64) = decide (Hu p a = 0) := by
  rw [Ara, Bool.eq_iff_iff]
  simp only [beq_iff_eq, ← UInt64.toNat_inj, decide_eq_true_eq, Ym p a 1 (by omega), Bac]; rfl
 have e1 : Ae (a : Int) 1 = ((a + 1 : Nat) : Int) := by rw [Ag (by omega) (by omega)]; omega
 rw [if_neg (by rw [As]; simp), e0, e1]
 by_cases hz : Hu p a = 0
 ·rw [if_pos (by simp [hz]), Apk h (a + 1) k (by omega), Aa]
  by_cases h5 : N < a + 1 + k
  ·have hS : dgS p N a k l = (0, 0, 24) := by rw [dgS, if_neg ha, if_pos hz, if_pos h5]
   rw [if_pos h5, hS]; rfl
  ·have hS : dgS p N a k l = (UInt32.ofNat (Bq p (a + 1) k), ((a + 1 + k : Nat) : Int), 0) := by rw [dgS, if_neg ha, if_pos hz, if_neg h5]
   rw [if_neg h5, hS]
   simp only
   rw [if_neg (by rw [As]; simp), Asa hd, Aoo (by omega), Ag (by omega) (by omega)]; rfl
 ·rw [if_neg (by simp [hz]), Bm3 h (a + 1) l h2, Aa]
  have hp : 2 ^ k ≤ 2 ^ 24 := Nat.pow_le_pow_right (by omega) h1
  by_cases h5 : (rcS p N (a + 1) l).2.2 ≠ 0
  ·have hS : dgS p N a k l = (0, 0, (rcS p N (a + 1) l).2.2) := by rw [dgS, if_neg ha, if_neg hz, if_pos h5]
   rw [hS]
   generalize rcS p N (a + 1) l = R at *
   obtain ⟨v, n, e⟩ := R
   simp only at *
   rw [if_pos (by rw [As]; simpa using h5), if_pos h5]
  ·have hv := (rcS p N (a + 1) l).1.toNat_lt
   have z : (GI.toZ (k : Int)).toNat = k := rfl
   have e3 : (Eu (1 : UInt32) k).toNat = 2 ^ k := by rw [Aub]; show 1 * 2 ^ k % _ = _; rw [Nat.mod_eq_of_lt (by omega), Nat.one_mul]
   by_cases h6 : 4294967295 < (rcS p N (a + 1) l).1.toNat + 2 ^ k
   ·have hS : dgS p N a k l = (0, 0, 12) := by rw [dgS, if_neg ha, if_neg hz, if_neg h5, if_pos h6]
    rw [hS]
    generalize rcS p N (a + 1) l = R at *
    obtain ⟨v, n, e⟩ := R
    simp only at *
    rw [if_neg (by rw [As]; simpa using h5), Cq (by rw [Dm]; simp), Aa, z, if_pos (by rw [Beq, Asg, UInt32.toNat_add, e3]; simp; omega), if_pos (by decide)]
   ·have hS : dgS p N a k l = (UInt32.ofNat ((rcS p N (a + 1) l).1.toNat + 2 ^ k), (rcS p N (a + 1) l).2.1, 0) := by rw [dgS, if_neg ha, if_neg hz, if_neg h5, if_neg h6]
    rw [hS]
    generalize rcS p N (a + 1) l = R at *
    obtain ⟨v, n, e⟩ := R
    simp only at *
    have e4 : Ae v (Eu (1 : UInt32) k) = UInt32.ofNat (v.toNat + 2 ^ k) := by
     apply UInt32.toNat_inj.1
     rw [Asg, UInt32.toNat_add, e3, Ai5 (by omega), Nat.mod_eq_of_lt (by omega)]
    rw [if_neg (by rw [As]; simpa using h5), Cq (by rw [Dm]; simp), Aa, z, if_neg (by rw [Beq, Asg, UInt32.toNat_add, e3]; simp; omega), e4, Asa hd]; rfl
theorem Bjl {p : List UInt8} {N : Nat} (h : okB p N) (a : Nat) (k l : Nat) (s t : UInt64) (h1 : k ≤ 24) (h2 : l ≤ 24) : Ua p (N : Int) (a : Int) (k : Int) (l : Int) s t = some (dgS p N a k l) := by
 have hN := h.1
 have hl := h.2.1
 have hb := Vd p a
 rw [Ua]
 by_cases ha : N ≤ a
 ·rw [if_pos (by rw [Dm]; simp; omega), dgS, if_pos ha]
 rw [if_neg (by rw [Dm]; simp; omega), Apl p _ a (by omega) (by omega), Aa, Bt (a := (N : Int)) (b := (a : Int)) (by omega) (by omega), Bt (by omega) (by omega)]
 have e1 : Ae (a : Int) 1 = ((a + 1 : Nat) : Int) := by rw [Ag (by omega) (by omega)]; omega
 rw [e1]
 by_cases hz : Hu p a = 0
 ·rw [if_pos (by rw [Cd]; simp [hz])]
  by_cases h5 : N < a + 1 + k
  ·rw [if_pos (by rw [Af]; simp; omega), dgS, if_neg ha, if_pos hz, if_pos h5]
  ·rw [if_neg (by rw [Af]; simp; omega), Amy p _ (a + 1) k (by omega) (by omega), Aa, dgS, if_neg ha, if_pos hz, if_neg h5, Aoo (by omega), Ag (by omega) (by omega)]; rfl
 ·rw [if_neg (by rw [Cd]; simp; omega), Bhm h (a + 1) l h2, Aa]
  have hp : 2 ^ k ≤ 2 ^ 24 := Nat.pow_le_pow_right (by omega) h1
  have hv := (rcS p N (a + 1) l).1.toNat_lt
  have e2 : ∀ x : UInt64, (Ad x : UInt32) = UInt32.ofNat x.toNat := fun x => by simp only [Ad, Gt, Dr]
  by_cases h5 : (rcS p N (a + 1) l).2.2 ≠ 0
  ·have hS : dgS p N a k l = (0, 0, (rcS p N (a + 1) l).2.2) := by rw [dgS, if_neg ha, if_neg hz, if_pos h5]
   rw [hS]
   generalize rcS p N (a + 1) l = R at *
   obtain ⟨v, n, e⟩ := R
   simp only at *
   rw [if_pos (by rw [As]; simpa using h5)]
  ·have hsum : ∀ v : UInt32, (Ae (Ad v : UInt64) (UInt64.ofNat (2 ^ k))).toNat = v.toNat + 2 ^ k := by
    intro v
    have := v.toNat_lt
    have := Nat.pow_pos (n := k) (show 0 < 2 by omega)
    rw [Acf, UInt64.toNat_add, Gl, Afz (by omega), UInt64.toNat_ofNat']; omega
   by_cases h6 : 4294967295 < (rcS p N (a + 1) l).1.toNat + 2 ^ k
   ·have hS : dgS p N a k l = (0, 0, 12) := by rw [dgS, if_neg ha, if_neg hz, if_neg h5, if_pos h6]
    rw [hS]
    generalize rcS p N (a + 1) l = R at *
    obtain ⟨v, n, e⟩ := R
    simp only at *
    rw [if_neg (by rw [As]; simpa using h5), Aby k (by omega), Aa, if_pos (by rw [Afp, hsum]; simpa using h6)]
   ·have hS : dgS p N a k l = (UInt32.ofNat ((rcS p N (a + 1) l).1.toNat + 2 ^ k), (rcS p N (a + 1) l).2.1, 0) := by rw [dgS, if_neg ha, if_neg hz, if_neg h5, if_neg h6]
    rw [hS]
    generalize rcS p N (a + 1) l = R at *
    obtain ⟨v, n, e⟩ := R
    simp only at *
    rw [if_neg (by rw [As]; simpa using h5), Aby k (by omega), Aa, if_neg (by rw [Afp, hsum]; simpa using h6), e2, hsum]
end Go.Pl
set_option linter.unusedVariables false
set_option linter.unusedSimpArgs false
namespace Go.Pl
open Go Go.Lv
abbrev DuN := Nat × Nat × UInt64 × UInt64
def okN (d : DuN) : Prop := okD d.1 d.2.1 d.2.2.1 d.2.2.2
def nxt (d : DuN) (v : UInt32) : DuN := (kS d.1 (Yx d.2.2.1 (n64 v)), lK d.2.1 d.2.2.2 d.1 v, Yx d.2.2.1 (n64 v), lT d.2.2.2 d.1 v)
def Ax7 : DuN := (10, 10, 16384, 16384)
theorem Bg8 : okN Ax7 := ⟨by decide, by decide, by decide, by decide⟩
theorem Bn8 {d : DuN} (h : okN d) (v : UInt32) : okN (nxt d v) := Bh3 h v
abbrev DuL := Int × Int × UInt64 × UInt64 × Unit
def toI (d : DuN) : DuL := ((d.1 : Int), (d.2.1 : Int), d.2.2.1, d.2.2.2, ())
def chP (ch : Nat) (v : List UInt32) (c : Nat) : Nat → DuN
 | 0 => Ax7
 | m + 1 => if m % ch = c then nxt (chP ch v c m) (v.getD m 0) else chP ch v c m
theorem Ao1 (ch : Nat) (v : List UInt32) (c : Nat) : ∀ m, okN (chP ch v c m)
 | 0 => Bg8
 | m + 1 => by rw [chP]; split; exact Bn8 (Ao1 ch v c m) _; exact Ao1 ch v c m
theorem Bdx (ch : Nat) (v w : List UInt32) (c : Nat) : ∀ m, m ≤ v.length → chP ch (v ++ w) c m = chP ch v c m
 | 0, _ => rfl
 | m + 1, h => by
  have e : (v ++ w).getD m 0 = v.getD m 0 := by simp [List.getD_eq_getElem?_getD, List.getElem?_append_left (show m < v.length by omega)]
  rw [chP, chP, Bdx ch v w c m (by omega), e]
theorem Ax9 (ch : Nat) (v : List UInt32) (c : Nat) : ∀ m, m ≤ c → c < ch → chP ch v c m = Ax7
 | 0, _, _ => rfl
 | m + 1, h, h2 => by rw [chP, if_neg (by rw [Nat.mod_eq_of_lt (by omega)]; omega), Ax9 ch v c m (by omega) h2]
theorem Ay0 (ch : Nat) (v : List UInt32) (c i : Nat) (hi : i % ch = c) (hc : c < ch) : ∀ j, j < ch → chP ch v c (i + 1 + j) = chP ch v c (i + 1)
 | 0, _ => rfl
 | j + 1, h => by
  have hne : (i + 1 + j) % ch ≠ c := by
   intro e
   have h1 : (i + (1 + j)) % ch = i % ch := by rw [hi, ← e]; congr 1; omega
   have h2 : (1 + j) % ch = 0 := by
    have h3 := Nat.sub_mod_eq_zero_of_mod_eq h1
    rwa [Nat.add_sub_cancel_left] at h3
   rw [Nat.mod_eq_of_lt (by omega)] at h2; omega
  rw [show i + 1 + (j + 1) = (i + 1 + j) + 1 by omega, chP, if_neg hne, Ay0 ch v c i hi hc j (by omega)]
theorem Bii (ch : Nat) (v : List UInt32) (c i : Nat) (hi : i % ch = c) (hc : c < ch) : chP ch v c (i + ch) = nxt (chP ch v c i) (v.getD i 0) := by
 have h := Ay0 ch v c i hi hc (ch - 1) (by omega)
 rw [show i + 1 + (ch - 1) = i + ch by omega] at h
 rw [h, chP, if_pos hi]
theorem Atf {l : List UInt32} {k : Nat} (h : k < l.length) : Aj l (k : Int) = some (l.getD k 0) := by
 rw [Dl h]; simp [List.getD_eq_getElem?_getD, h]
theorem Aty (a b : Nat) : Il (a : Int) (b : Int) = ((a % b : Nat) : Int) := by rw [Il, Int.tmod_eq_emod_of_nonneg (by omega)]; omega
theorem Aqh (ch : Nat) (v : List UInt32) (hch : 1 ≤ ch) (hch6 : ch ≤ 6) (hv : v.length ≤ 4000) : ∀ (j i q : Nat), i % ch = v.length % ch → i ≤ v.length → v.length - i ≤ j → j < q →
  Ga (ch : Int) v q (i : Int) ((chP ch v (v.length % ch) i).1 : Int) ((chP ch v (v.length % ch) i).2.1 : Int) (chP ch v (v.length % ch) i).2.2.1 (chP ch v (v.length % ch) i).2.2.2 =
   some (((chP ch v (v.length % ch) v.length).1 : Int), ((chP ch v (v.length % ch) v.length).2.1 : Int), (chP ch v (v.length % ch) v.length).2.2.1, (chP ch v (v.length % ch) v.length).2.2.2)
 | j, i, q + 1, hi, hl, hj, hq => by
  have hc : v.length % ch < ch := Nat.mod_lt _ (by omega)
  rw [Ga, Pz]
  by_cases h : i < v.length
  ·have h1 := Bg0 (Ao1 ch v (v.length % ch) i) (v.getD i 0)
   rw [if_pos (by rw [Af, Ac]; simp; omega), Atf h, Aa, h1, Aa]
   have hle : i + ch ≤ v.length := by
    have h2 := Nat.div_add_mod i ch
    have h3 := Nat.div_add_mod v.length ch
    rw [hi] at h2
    have h4 : ch * (i / ch) < ch * (v.length / ch) := by omega
    have h5 := Nat.lt_of_mul_lt_mul_left h4
    have h6 : ch * (i / ch + 1) ≤ ch * (v.length / ch) := Nat.mul_le_mul_left _ h5
    rw [Nat.mul_add] at h6; omega
   have ih := Aqh ch v hch hch6 hv (j - ch) (i + ch) q (by rw [Nat.add_mod_right]; exact hi) hle (by omega) (by omega)
   rw [Bii ch v _ i hi hc] at ih
   simp only
   rw [Ag (by omega) (by omega)]
   exact ih
  ·rw [if_neg (by rw [Af, Ac]; simp; omega), show i = v.length by omega]; rfl
theorem Bgi (ch : Nat) (v : List UInt32) (hch : 1 ≤ ch) (hch6 : ch ≤ 6) (hv : v.length ≤ 4000) : Is (ch : Int) v = some (((chP ch v (v.length % ch) v.length).1 : Int), ((chP ch v (v.length % ch) v.length).2.1 : Int), (chP ch v (v.length % ch) v.length).2.2.1, (chP ch v (v.length % ch) v.length).2.2.2) := by
 have hc : v.length % ch < ch := Nat.mod_lt _ (by omega)
 have hle : v.length % ch ≤ v.length := Nat.mod_le _ _
 have h := Aqh ch v hch hch6 hv v.length (v.length % ch) Ba (by rw [Nat.mod_mod]) hle (by omega) (by have := Ay; omega)
 rw [Ax9 ch v _ _ (Nat.le_refl _) hc] at h
 rw [Is, Qa, Hb, Aa]
 simp only
 rw [Cq (by rw [As]; simp; omega), Aa, Ac, Aty]
 exact h
def now (ch : Nat) (v : List UInt32) : DuN := chP ch v (v.length % ch) v.length
def win (N a : Nat) : Nat := min 81 (N - a)
def Jb (ch : Nat) (p : List UInt8) (N a : Nat) (out : List UInt32) : UInt32 × Int × Int := dgS (Aa4 p a (win N a)) (win N a) 0 (now ch out).1 (now ch out).2.1
def Xn (ch : Nat) (p : List UInt8) (N : Nat) : Nat → Nat → List UInt32 → List UInt32 × Nat × Int
 | 0, a, out => (out, a, 0)
 | j + 1, a, out => if (Jb ch p N a out).2.2 ≠ 0 then (out, a, (Jb ch p N a out).2.2) else Xn ch p N j (a + (Jb ch p N a out).2.1.toNat) (out ++ [(Jb ch p N a out).1])
theorem Ald {ch : Nat} {p : List UInt8} {N a : Nat} {out : List UInt32} (h : (Jb ch p N a out).2.2 = 0) : 0 < (Jb ch p N a out).2.1 ∧ (Jb ch p N a out).2.1 ≤ win N a := by
 have := Bod h
 exact ⟨this.1, this.2⟩
theorem Av2 {ch : Nat} {p : List UInt8} {N a : Nat} {out : List UInt32} (h : (Jb ch p N a out).2.2 = 0) : ((a : Int) + (Jb ch p N a out).2.1) = ((a + (Jb ch p N a out).2.1.toNat : Nat) : Int) := by
 have := Ald h; omega
def sts (ch : Nat) (v : List UInt32) : List DuL := (List.range 6).map fun c => toI (chP ch v c v.length)
theorem Bee {ch : Nat} {v : List UInt32} {c : Nat} (h : c < 6) : Aj (sts ch v) (c : Int) = some (toI (chP ch v c v.length)) := by
 rw [Dl (by simp [sts]; exact h)]; simp [sts]
theorem Blf {ch : Nat} {v : List UInt32} {c : Nat} (x : UInt32) (h : c < 6) (hc : c = v.length % ch) : Oi (sts ch v) (c : Int) (toI (nxt (chP ch v c v.length) x)) = some (sts ch (v ++ [x])) := by
 rw [Us _ (by simp [sts]; exact h)]
 congr 1
 apply List.ext_getElem (by simp [sts])
 intro i h1 h2
 rw [List.getElem_set]
 simp only [sts, List.getElem_map, List.getElem_range]
 have e : (v ++ [x]).getD v.length 0 = x := by simp
 rw [List.length_append, List.length_singleton, chP, e, Bdx ch v [x] i v.length (Nat.le_refl _)]
 by_cases hi : c = i
 ·subst hi; rw [if_pos rfl, if_pos hc.symm]
 ·rw [if_neg hi, if_neg (by omega)]
section
variable {p : List UInt8} {N ch n : Nat}
theorem Ay1 (hp : okB p N) (h1 : 1 ≤ ch) (h6 : ch ≤ 6) (hn : n * ch ≤ 4000) : ∀ (j a q : Nat) (out : List UInt32), out.length + j = n * ch → j < q → a ≤ N →
  Jv (ch : Int) (n : Int) p (N : Int) q (a : Int) (out.length : Int) (sts ch out) out =
   some (if (Xn ch p N j a out).2.2 ≠ 0 then ([], 0, (Xn ch p N j a out).2.2) else ((Xn ch p N j a out).1, ((Xn ch p N j a out).2.1 : Int), 0))
 | j, a, q + 1, out, hj, hq, ha => by
  have hN := hp.1
  have hnn : n ≤ n * ch := Nat.le_mul_of_pos_right n (by omega)
  have em : Bp (n : Int) (ch : Int) = ((n * ch : Nat) : Int) := by rw [Ih (by rw [← Int.natCast_mul]; omega) (by rw [← Int.natCast_mul]; omega), Int.natCast_mul]
  rw [Jv, Ps, em]
  cases j with
  | zero =>
   rw [if_neg (by rw [Af]; simp; omega)]; rfl
  | succ j =>
   have hc : out.length % ch < 6 := Nat.lt_of_lt_of_le (Nat.mod_lt _ (by omega)) h6
   have ew : Fy (Ae (a : Int) 81) (N : Int) = ((a + win N a : Nat) : Int) := by rw [Af8, Ag (by omega) (by omega)]; unfold win; omega
   have hw : a + win N a ≤ N := by unfold win; omega
   have hw2 : win N a ≤ 81 := by unfold win; omega
   have hd := Bk5 (Bel p a (win N a) (by omega)) 0 (Ao1 ch out (out.length % ch) out.length)
   have ecode : dgS (Aa4 p a (win N a)) (win N a) 0 (chP ch out (out.length % ch) out.length).1 (chP ch out (out.length % ch) out.length).2.1 = Jb ch p N a out := rfl
   rw [if_pos (by rw [Af]; simp; omega), ew, Bob hp a _ hw (by omega), Aa]
   simp only
   rw [if_neg (by rw [As]; simp), Cq (by rw [As]; simp; omega), Aa, Aty, Bee hc, Aa, Aa]
   refine Eq.trans (congrArg (fun o => Option.bind o _) hd) ?_
   rw [Aa, ecode, Xn]
   by_cases he : (Jb ch p N a out).2.2 ≠ 0
   ·rw [if_pos he, if_pos he]
    simp only
    rw [Qb, Oq, if_pos (by rw [As]; simpa using he), if_pos he]
   ·have he0 : (Jb ch p N a out).2.2 = 0 := by simpa using he
    have hok := Ald he0
    have hset := Blf (ch := ch) (v := out) (Jb ch p N a out).1 hc rfl
    rw [if_neg he, if_neg he]
    simp only
    rw [Qb, Oq, if_neg (by rw [As]; simp), Cq (by rw [As]; simp; omega), Aa, Aty, Bee hc, Aa]
    refine Eq.trans (congrArg (fun o => Option.bind o _) hset) ?_
    rw [Aa, Wj, Aey, Gp (by simp; omega), Aa, Ag (by omega) (by omega), Ag (by omega) (by omega), Av2 he0]
    have ih := Ay1 hp h1 h6 hn j (a + (Jb ch p N a out).2.1.toNat) q (out ++ [(Jb ch p N a out).1]) (by simp; omega) (by omega) (by omega)
    rw [List.length_append, List.length_singleton] at ih
    exact ih
theorem Bei {p : List UInt8} (hN : N = 8 * p.length) (hN2 : N ≤ 330000) (h1 : 1 ≤ ch) (h6 : ch ≤ 6) (hn : n * ch ≤ 4000) : ∀ (j a q : Nat) (out : List UInt32), out.length + j = n * ch → j < q → a ≤ N →
  Da (ch : Int) (n : Int) p q (a : Int) (out.length : Int) out =
   if (Xn ch p N j a out).2.2 ≠ 0 then some ((Xn ch p N j a out).1, (Xn ch p N j a out).2.2) else Ki ((Xn ch p N j a out).2.1 : Int) p (Xn ch p N j a out).1
 | j, a, q + 1, out, hj, hq, ha => by
  have hnn : n ≤ n * ch := Nat.le_mul_of_pos_right n (by omega)
  have em : Bp (n : Int) (ch : Int) = ((n * ch : Nat) : Int) := by rw [Ih (by rw [← Int.natCast_mul]; omega) (by rw [← Int.natCast_mul]; omega), Int.natCast_mul]
  have e8 : Bp (8 : Int) (Ac p) = (N : Int) := by rw [Ac, Ih (by omega) (by omega)]; omega
  rw [Da, Qs, em]
  cases j with
  | zero =>
   rw [if_neg (by rw [Af]; simp; omega)]; rfl
  | succ j =>
   have ew : Fy (Ae (a : Int) 81) (N : Int) = ((a + win N a : Nat) : Int) := by rw [Af8, Ag (by omega) (by omega)]; unfold win; omega
   have hw : a + win N a ≤ N := by unfold win; omega
   have hw2 : win N a ≤ 81 := by unfold win; omega
   have hpre : (Option.bind Hb fun (r_4, r_5, r_6, r_7) =>
     if (Re (out.length : Int) (ch : Int)) = true then (
     Option.bind (Is (ch : Int) out) fun (r_8, r_9, r_10, r_11) =>
     Ey (Da (ch : Int) (n : Int) p q) (ch : Int) (n : Int) p (a : Int) (out.length : Int) out r_8 r_9 r_10 r_11)
     else Ey (Da (ch : Int) (n : Int) p q) (ch : Int) (n : Int) p (a : Int) (out.length : Int) out r_4 r_5 r_6 r_7) =
     Ey (Da (ch : Int) (n : Int) p q) (ch : Int) (n : Int) p (a : Int) (out.length : Int) out ((now ch out).1 : Int) ((now ch out).2.1 : Int) (now ch out).2.2.1 (now ch out).2.2.2 := by
    rw [Hb, Aa]
    by_cases hc : ch ≤ out.length
    ·simp only
     rw [if_pos (by rw [Dm]; simp; omega), Bgi ch out h1 h6 (by omega), Aa]; rfl
    ·have e : now ch out = Ax7 := by rw [now, Nat.mod_eq_of_lt (by omega), Ax9 ch out _ _ (Nat.le_refl _) (by omega)]
     simp only
     rw [if_neg (by rw [Dm]; simp; omega), e]; rfl
   have hd := Bjl (Bel p a (win N a) (by omega)) 0 (now ch out).1 (now ch out).2.1 (now ch out).2.2.1 (now ch out).2.2.2 (Ao1 ch out _ _).1 (Ao1 ch out _ _).2.1
   have ecode : dgS (Aa4 p a (win N a)) (win N a) 0 (now ch out).1 (now ch out).2.1 = Jb ch p N a out := rfl
   rw [if_pos (by rw [Af]; simp; omega), hpre, Ey, Zq, e8, ew, Bap p (N : Int) a _ (by omega) (by omega) (by omega), Aa]
   simp only
   refine Eq.trans (congrArg (fun o => Option.bind o _) hd) ?_
   rw [Aa, ecode, Xn]
   by_cases he : (Jb ch p N a out).2.2 ≠ 0
   ·rw [if_pos he, if_pos (by rw [As]; simpa using he), if_pos he]
   ·have he0 : (Jb ch p N a out).2.2 = 0 := by simpa using he
    have hok := Ald he0
    have ih := Bei hN hN2 h1 h6 hn j (a + (Jb ch p N a out).2.1.toNat) q (out ++ [(Jb ch p N a out).1]) (by simp; omega) (by omega) (by omega)
    have hx := Av2 he0
    rw [List.length_append, List.length_singleton] at ih
    rw [if_neg he]
    generalize Jb ch p N a out = R at *
    obtain ⟨v, nx, e⟩ := R
    simp only at *
    rw [if_neg (by rw [As]; simpa using he), Gp (by simp; omega), Aa, Ag (by omega) (by omega), Ag (by omega) (by omega), hx]
    exact ih
end
theorem Awy {ch : Nat} {p : List UInt8} {N : Nat} : ∀ (j a : Nat) (out : List UInt32), a ≤ N → (Xn ch p N j a out).2.1 ≤ N ∧ (Xn ch p N j a out).1.length ≤ out.length + j ∧ ((Xn ch p N j a out).2.2 = 0 → (Xn ch p N j a out).1.length = out.length + j)
 | 0, a, out, h => ⟨h, Nat.le_refl _, fun _ => rfl⟩
 | j + 1, a, out, h => by
  rw [Xn]
  split
  ·rename_i he
   exact ⟨h, by simp, fun e => absurd e he⟩
  ·rename_i he
   have hok := Ald (ch := ch) (p := p) (N := N) (a := a) (out := out) (by simpa using he)
   have hw : a + win N a ≤ N := by unfold win; omega
   have ih := Awy (ch := ch) (p := p) (N := N) j (a + (Jb ch p N a out).2.1.toNat) (out ++ [(Jb ch p N a out).1]) (by omega)
   rw [List.length_append, List.length_singleton] at ih
   exact ⟨ih.1, by omega, fun e => by have := ih.2.2 e; omega⟩
theorem Azp (ch n : Int) (b : List UInt8) (N : Int) : Pw ch n b N 0 (List.replicate 6 ((0 : Int), (0 : Int), (0 : UInt64), (0 : UInt64), ())) = Wb ch n b N (List.replicate 6 ((10 : Int), (10 : Int), (16384 : UInt64), (16384 : UInt64), ())) := by
 have e : Ba = (Ba - 7) + 1 + 1 + 1 + 1 + 1 + 1 + 1 := by have := Ay; omega
 rw [Pw, e]
 rfl
theorem values_eq {p : List UInt8} {N ch n : Nat} (hp : okB p N) (h1 : 1 ≤ ch) (h6 : ch ≤ 6) (hn : n * ch ≤ 4000) : Zf (ch : Int) (n : Int) p (N : Int) =
  some (if (Xn ch p N (n * ch) 0 []).2.2 ≠ 0 then ([], 0, (Xn ch p N (n * ch) 0 []).2.2) else ((Xn ch p N (n * ch) 0 []).1, ((Xn ch p N (n * ch) 0 []).2.1 : Int), 0)) := by
 have h := Ay1 hp h1 h6 hn (n * ch) 0 Ba [] (by simp) (by have := Ay; omega) (by omega)
 rw [Zf, Xp, Azp]
 exact h
theorem Avc (p : List UInt8) (x : List UInt32) (N : Nat) (hN : N = 8 * p.length) (hN2 : N ≤ 330000) : ∀ (j a q : Nat), a + j = N → j < q → Ez p x q (a : Int) = some (x, if Bq p a j = 0 then 0 else 12)
 | 0, a, q + 1, ha, _ => by
  have e8 : Bp (8 : Int) (Ac p) = (N : Int) := by rw [Ac, Ih (by omega) (by omega)]; omega
  rw [Ez, Kh, e8, if_neg (by rw [Af]; simp; omega), Bq, if_pos rfl]; rfl
 | j + 1, a, q + 1, ha, hq => by
  have e8 : Bp (8 : Int) (Ac p) = (N : Int) := by rw [Ac, Ih (by omega) (by omega)]; omega
  have hb := Vd p a
  rw [Ez, Kh, e8, if_pos (by rw [Af]; simp; omega), Apl p _ a (by omega) (by omega), Aa, Bq]
  by_cases h : Hu p a = 0
  ·rw [if_neg (by rw [As]; simp [h]), Ag (by omega) (by omega), h]
   have ih := Avc p x N hN hN2 j (a + 1) q (by omega) (by omega)
   rw [show ((a : Int) + 1) = ((a + 1 : Nat) : Int) by omega, ih]
   congr 2
   by_cases hv : Bq p (a + 1) j = 0
   ·rw [if_pos hv, if_pos (by omega)]
   ·rw [if_neg hv, if_neg (by omega)]
  ·rw [if_pos (by rw [As]; simp; omega), if_neg (by omega)]
theorem Bml {p : List UInt8} {N ch n : Nat} (hN : N = 8 * p.length) (hN2 : N ≤ 330000) (h1 : 1 ≤ ch) (h6 : ch ≤ 6) (hn : n * ch ≤ 4000) : Rt (ch : Int) (n : Int) p =
  some (if (Xn ch p N (n * ch) 0 []).2.2 ≠ 0 then ((Xn ch p N (n * ch) 0 []).1, (Xn ch p N (n * ch) 0 []).2.2) else
   ((Xn ch p N (n * ch) 0 []).1, if 7 < N - (Xn ch p N (n * ch) 0 []).2.1 ∨ Bq p (Xn ch p N (n * ch) 0 []).2.1 (N - (Xn ch p N (n * ch) 0 []).2.1) ≠ 0 then 12 else 0)) := by
 have h := Bei hN hN2 h1 h6 hn (n * ch) 0 Ba [] (by simp) (by have := Ay; omega) (by omega)
 have hat := (Awy (ch := ch) (p := p) (N := N) (n * ch) 0 [] (by omega)).1
 have e8 : Bp (8 : Int) (Ac p) = (N : Int) := by rw [Ac, Ih (by omega) (by omega)]; omega
 rw [Rt, Tt]
 refine Eq.trans h ?_
 generalize Xn ch p N (n * ch) 0 [] = V at *
 obtain ⟨v, a, e⟩ := V
 simp only at *
 by_cases he : e ≠ 0
 ·rw [if_pos he, if_pos he]
 ·rw [if_neg he, if_neg he, Ki, Qo, e8, Bt (by omega) (by omega)]
  by_cases h7 : 7 < N - a
  ·rw [if_pos (by rw [Bc]; simp; omega), if_pos (.inl h7)]
  ·rw [if_neg (by rw [Bc]; simp; omega), Qu, Avc p v N hN hN2 (N - a) a Ba (by omega) (by have := Ay; omega)]
   by_cases hv : Bq p a (N - a) = 0
   ·rw [if_pos hv, if_neg (by omega)]
   ·rw [if_neg hv, if_pos (.inr hv)]
end Go.Pl
set_option linter.unusedVariables false
set_option linter.unusedSimpArgs false
namespace Go.Pl
open Go Go.Lv
theorem Aya (n : Int) : (GI.ofZ n : Int32) = Int32.ofInt n := rfl
theorem Af4 (a : Int32) : GI.toZ a = a.toInt := rfl
theorem Ahi (a b : Int32) : Ae a b = a + b := by
 rw [Ae, Af4, Af4, Aya, Int32.ofInt_add, Int32.ofInt_toInt, Int32.ofInt_toInt]
theorem Arv (a b : Int32) : Am a b = a - b := by
 rw [Am, Af4, Af4, Aya, Int32.ofInt_sub, Int32.ofInt_toInt, Int32.ofInt_toInt]
theorem Ben (a b : Int32) : geq a b = (a == b) := by
 rw [geq, Af4, Af4, Bool.eq_iff_iff]; simp [Int32.toInt_inj]
def sel (p : Nat → Bool) (a b : List Int32) : List Int32 := (List.range a.length).map fun k => if p k = true then a.getD k 0 else b.getD k 0
section
variable {p q : Nat → Bool} {a b : List Int32}
theorem Ah8 : (sel p a b).length = a.length := by simp [sel]
theorem Kl {k : Nat} (h : k < a.length) : a.getD k 0 = a[k] := by simp [List.getD_eq_getElem?_getD, h]
theorem Xf {k : Nat} (h : k < (sel p a b).length) : (sel p a b)[k] = if p k = true then a.getD k 0 else b.getD k 0 := by simp [sel]
theorem Afm {k : Nat} (h : k < a.length) : Aj (sel p a b) (k : Int) = some (if p k = true then a.getD k 0 else b.getD k 0) := by
 rw [Dl (by rw [Ah8]; exact h), Xf]
theorem Xc (h : ∀ k, k < a.length → p k = q k) : sel p a b = sel q a b := by
 apply List.map_congr_left
 intro k hk
 rw [h k (List.mem_range.1 hk)]
theorem An3 {k : Nat} (h : k < a.length) : Oi (sel p a b) (k : Int) (a.getD k 0) = some (sel (fun j => p j || decide (j = k)) a b) := by
 rw [Us _ (by rw [Ah8]; exact h)]
 congr 1
 apply List.ext_getElem (by simp [Ah8])
 intro i h1 h2
 rw [List.getElem_set, Xf, Xf]
 by_cases hi : k = i
 ·subst hi; simp
 ·have : ¬ i = k := fun e => hi e.symm
  simp [hi, this]
theorem Aoj (h : ∀ k, k < a.length → p k = true) : sel p a b = a := by
 apply List.ext_getElem (by simp [Ah8])
 intro i h1 h2
 rw [Xf, if_pos (h i h2), Kl h2]
theorem Aod (hl : b.length = a.length) (h : ∀ k, k < a.length → p k = false) : sel p a b = b := by
 apply List.ext_getElem (by simp [Ah8, hl])
 intro i h1 h2
 rw [Xf, h i (by omega)]
 simp [List.getD_eq_getElem?_getD, h2]
end
end Go.Pl
set_option linter.unusedVariables false
set_option linter.unusedSimpArgs false
namespace Go.Pl
open Go Go.Lv
theorem As0 (a b : Int32) : Bp a b = a * b := by
 rw [Bp, Af4, Af4, Aya, Int32.ofInt_mul, Int32.ofInt_toInt, Int32.ofInt_toInt]
theorem Ya (a : Int32) : -2147483648 ≤ a.toInt ∧ a.toInt < 2147483648 := ⟨a.le_toInt, a.toInt_lt⟩
theorem Ee (a : Int32) : (Ad a : Int) = a.toInt := by
 have := Ya a
 show wrap64 a.toInt = _
 rw [Bu] <;> omega
theorem Ads (n : Int) : (Ad n : Int32) = Int32.ofInt n := rfl
theorem Bgc (x : Int) : Int32.ofInt (x % 4294967296) = Int32.ofInt x := by
 apply Int32.toInt_inj.1
 rw [Int32.toInt_ofInt, Int32.toInt_ofInt]
 exact Int.emod_bmod x 4294967296
theorem Arb (x : Int) : Bl x = some (Int32.ofInt x) := by
 have e1 : (Ad x : UInt64).toNat = (x % 18446744073709551616).toNat := by
  rw [Ay9, UInt64.toNat_ofNat', Nat.mod_eq_of_lt (by omega)]
 have e2 : (Ad (Ad x : UInt64) : UInt32).toNat = (x % 4294967296).toNat := by
  have e : (Ad (Ad x : UInt64) : UInt32) = UInt32.ofNat (Ad x : UInt64).toNat := by simp only [Ad, Gt, Dr]
  rw [e, UInt32.toNat_ofNat', e1]
  show (x % 18446744073709551616).toNat % 4294967296 = _
  omega
 have e3 : (Ad (Ad (Ad x : UInt64) : UInt32) : Int32) = Int32.ofInt ((Ad (Ad x : UInt64) : UInt32).toNat : Int) := rfl
 rw [Bl, e3, e2, ← Bgc x]
 congr 2; omega
theorem An4 (a b : Int32) : Bl (Ae (Ad a : Int) (Ad b : Int)) = some (a + b) := by
 have := Ya a
 have := Ya b
 rw [Ee, Ee, Ag (by omega) (by omega), Arb, Int32.ofInt_add, Int32.ofInt_toInt, Int32.ofInt_toInt]
theorem Bka (a b : Int32) : Bl (Bp (Ad a : Int) (Ad b : Int)) = some (a * b) := by
 have ha := Ya a
 have hb := Ya b
 have h1 : -9223372036854775808 ≤ a.toInt * b.toInt ∧ a.toInt * b.toInt ≤ 9223372036854775807 := by
  have h2 : (a.toInt * b.toInt).natAbs ≤ 2147483648 * 2147483648 := by
   rw [Int.natAbs_mul]; exact Nat.mul_le_mul (by omega) (by omega)
  omega
 rw [Ee, Ee, Ih h1.1 h1.2, Arb, Int32.ofInt_mul, Int32.ofInt_toInt, Int32.ofInt_toInt]
def OkF (s : Int) (t p : List Int32) : Prop := (s = 9 ∨ s = 10) ∧ t.length = 16 ∧ p.length = 16
theorem Apc {s : Int} {t p : List Int32} (h : OkF s t p) : Aas s t p = some 0 := by
 obtain ⟨rfl | rfl, _, _⟩ := h <;> rfl
theorem g32 {l : List Int32} {k : Nat} (h : k < l.length) : Aj l (k : Int) = some (l.getD k 0) := by
 rw [Dl h]; simp [List.getD_eq_getElem?_getD, h]
def Akh (t p : List Int32) : Nat → Int32
 | 0 => 0
 | i + 1 => Akh t p i + t.getD i 0 * p.getD i 0
def half (s : Int) : Int32 := if s = 9 then 256 else 512
def gF (s : Int) (t p : List Int32) : Int32 := Int32.ofInt ((half s + Akh t p 16).toInt.fdiv (if s = 9 then 512 else 1024))
theorem Av4 {s : Int} {t p : List Int32} (h : OkF s t p) : ∀ (j i q : Nat), i + j = 16 → j < q → Qg t s p q (half s + Akh t p i) (i : Int) = some (gF s t p, 0)
 | 0, i, q + 1, hi, _ => by
  obtain rfl : i = 16 := by omega
  have hs := h.1
  rw [Qg, Abg, if_neg (by rw [Af]; simp), Agj, Ame, Cq (by rw [Dm]; simp; omega), Aa]
  obtain rfl | rfl := hs <;> rfl
 | j + 1, i, q + 1, hi, hq => by
  obtain ⟨hs, ht, hp⟩ := h
  rw [Qg, Abg, if_pos (by rw [Af]; simp; omega), g32 (by omega), Aa, g32 (by omega), Aa, Aa, Ag (b := 1) (by omega) (by omega), Ahi, As0, Int32.add_assoc]
  exact Av4 ⟨hs, ht, hp⟩ j (i + 1) q (by omega) (by omega)
theorem Bi1 {s : Int} {t p : List Int32} (h : OkF s t p) : Aiy s t p = some (gF s t p, 0) := by
 have hs := h.1
 have h1 := Av4 h 16 0 Ba (by omega) (by have := Ay; omega)
 have e : Eu (1 : Int32) (GI.toZ (Am s (1 : Int))).toNat = half s + Akh t p 0 := by
  obtain rfl | rfl := hs <;> rfl
 rw [Aiy, Agc, Apc h, Aa, if_neg (by rw [As]; simp), Cq (by rw [Dm, Bt (by omega) (by omega)]; simp; omega), Aa, Agd, e]
 exact h1
theorem Aum {s : Int} {t p : List Int32} (ht : t.length = 16) (hp : p.length = 16) {g : Int32} (hg : Akh t p 16 = g) : ∀ (j i q : Nat), i + j = 16 → j < q → Gg s t p q (Akh t p i).toInt (i : Int) = some g
 | 0, i, q + 1, hi, _ => by
  obtain rfl : i = 16 := by omega
  rw [Gg, Mv, if_neg (by rw [Af]; simp), Uv, Ac4, Ads, Int32.ofInt_toInt, hg]
 | j + 1, i, q + 1, hi, hq => by
  have ih := Aum (s := s) ht hp hg j (i + 1) q (by omega) (by omega)
  rw [Akh] at ih
  rw [Gg, Mv, if_pos (by rw [Af]; simp; omega), g32 (by omega), g32 (by omega), Aa, Aa, Aa, Aa, Bka, Aa, ← Ee (Akh t p i), An4, Aa, Ee, Ag (by omega) (by omega)]
  exact ih
theorem Bju {s : Int} {t p : List Int32} (h : OkF s t p) : Aat s t p = some (Akh t p 16) :=
 Aum h.2.1 h.2.2 rfl 16 0 Ba (by omega) (by have := Ay; omega)
theorem Bfc (x n : Int) (hn : n = 512 ∨ n = 1024 ∨ n = 16 ∨ n = 32) : (if x.tmod n < 0 then x.tdiv n - 1 else x.tdiv n) = x.fdiv n := by
 have hs : n.sign = 1 := by obtain rfl | rfl | rfl | rfl := hn <;> rfl
 rw [Int.tdiv_eq_ediv, Int.tmod_eq_emod, hs, Int.fdiv_eq_ediv_of_nonneg _ (by omega)]
 by_cases h : 0 ≤ x ∨ n ∣ x
 ·rw [if_pos h, if_pos h]
  obtain rfl | rfl | rfl | rfl := hn <;> (rw [if_neg (by omega)]; omega)
 ·rw [if_neg h, if_neg h]
  obtain rfl | rfl | rfl | rfl := hn <;> (rw [if_pos (by omega)]; omega)
theorem At5 (x n : Int) (hn : n = 512 ∨ n = 1024 ∨ n = 16 ∨ n = 32) (h : -1000000000000 ≤ x) (h' : x ≤ 1000000000000) : -1000000000000 ≤ x.tdiv n ∧ x.tdiv n ≤ 1000000000000 := by
 have hs : n.sign = 1 := by obtain rfl | rfl | rfl | rfl := hn <;> rfl
 rw [Int.tdiv_eq_ediv, hs]
 by_cases h : 0 ≤ x ∨ n ∣ x
 ·rw [if_pos h]; obtain rfl | rfl | rfl | rfl := hn <;> omega
 ·rw [if_neg h]; obtain rfl | rfl | rfl | rfl := hn <;> omega
theorem Bpj (x n : Int) (hn : n = 512 ∨ n = 1024 ∨ n = 16 ∨ n = 32) (h : -1000000000000 ≤ x) (h' : x ≤ 1000000000000) : Dc x n = x.tdiv n := by
 have := At5 x n hn h h'
 rw [Ae9, Bu (by omega) (by omega)]
theorem Ayp (x n : Int) (hn : n = 512 ∨ n = 1024 ∨ n = 16 ∨ n = 32) (h : -1000000000000 ≤ x) (h' : x ≤ 1000000000000) :
  (if (Dg (Il x n) (0 : Int)) = true then some (Ad (Am (Dc x n) (1 : Int)) : Int32) else some (Ad (Dc x n) : Int32)) = some (Int32.ofInt (x.fdiv n)) := by
 have hb := At5 x n hn h h'
 rw [Af, Il, Bpj x n hn h h', Bt (by omega) (by omega), Ads, Ads, ← Bfc x n hn]
 by_cases hx : x.tmod n < 0
 ·rw [if_pos (by simpa using hx), if_pos hx]
 ·rw [if_neg (by simpa using hx), if_neg hx]
theorem Bk3 {s : Int} {t p : List Int32} (h : OkF s t p) : Rq s t p = some (gF s t p) := by
 obtain ⟨hs, ht, hp⟩ := h
 have h : OkF s t p := ⟨hs, ht, hp⟩
 have hx := Ya (Akh t p 16 + half s)
 have key : ∀ n : Int, (n = 512 ∨ n = 1024) → (half s).toInt = n / 2 → gF s t p = Int32.ofInt ((half s + Akh t p 16).toInt.fdiv n) → Lr s t p n = some (gF s t p) := by
  intro n hn hh hg
  have e2 : Dc n (2 : Int) = (half s).toInt := by rw [hh]; obtain rfl | rfl := hn <;> rfl
  rw [Lr, Abt, Bju h, Aa, e2, ← Ee (half s), An4, Aa, Cq (by rw [As]; simp; omega), Aa, Aa, Ee, Ayp _ n (by omega) (by omega) (by omega), hg, Int32.add_comm]
 rw [Rq, Sr]
 obtain rfl | rfl := hs
 ·rw [if_pos (by rw [Cd]; rfl)]; exact key 512 (.inl rfl) rfl rfl
 ·rw [if_neg (by rw [Cd]; decide)]; exact key 1024 (.inr rfl) rfl rfl
def stp (i : Nat) : Int32 := if i = 0 then 4 else if i < 4 then 2 else 1
def sg (x : Int32) : Int32 := if x.toInt < 0 then -1 else if 0 < x.toInt then 1 else 0
def lrn (t p : List Int32) (w : Int32) : List Int32 := (List.range 16).map fun i => t.getD i 0 + stp i * sg (p.getD i 0) * sg w
theorem Aa6 (t p : List Int32) (w : Int32) : (lrn t p w).length = 16 := by simp [lrn]
theorem Ax4 (t p : List Int32) (w : Int32) {i : Nat} (h : i < 16) : (lrn t p w).getD i 0 = t.getD i 0 + stp i * sg (p.getD i 0) * sg w := by
 rw [Kl (by rw [Aa6]; exact h)]; simp [lrn]
theorem step_eq (i : Nat) : Ahk (i : Int) = some (stp i) := by
 rw [Ahk, stp]
 by_cases h : i = 0
 ·rw [if_pos (by rw [Cd]; simp [h]), if_pos h]
 ·rw [if_neg (by rw [Cd]; simp; omega), if_neg h]
  by_cases h2 : i < 4
  ·rw [if_pos (by rw [Af]; simp; omega), if_pos h2]
  ·rw [if_neg (by rw [Af]; simp; omega), if_neg h2]
theorem Bff (i : Nat) : Ry (i : Int) = some (stp i) := by
 rw [Ry, stp]
 by_cases h : i = 0
 ·rw [if_pos (by rw [Cd]; simp [h]), if_pos h]
 ·rw [if_neg (by rw [Cd]; simp; omega), if_neg h]
  by_cases h2 : i < 4
  ·rw [if_pos (by rw [Avn]; simp; omega), if_pos h2]
  ·rw [if_neg (by rw [Avn]; simp; omega), if_neg h2]
theorem Axa (a b : Int32) : Dg a b = decide (a.toInt < b.toInt) := rfl
theorem Bcp (a b : Int32) : Hq a b = decide (b.toInt < a.toInt) := rfl
theorem sign_eq (x : Int32) : Lg x = some (sg x) := by
 rw [Lg, sg, Axa, Bcp, show (0 : Int32).toInt = 0 from rfl]
 by_cases h : x.toInt < 0
 ·rw [if_pos (by simpa using h), if_pos h]
 ·rw [if_neg (by simpa using h), if_neg h]
  by_cases h2 : 0 < x.toInt
  ·rw [if_pos (by simpa using h2), if_pos h2]
  ·rw [if_neg (by simpa using h2), if_neg h2]
theorem Bd3 : sg 0 = 0 := rfl
theorem toInt_ne {x : Int32} (h : x ≠ 0) : x.toInt ≠ 0 := fun e => h (Int32.toInt_inj.1 (by rw [e]; rfl))
theorem Axp {x : Int32} (h : x.toInt < 0) : sg x = -1 := by rw [sg, if_pos h]
theorem Aw9 {x : Int32} (h : x ≠ 0) (h2 : ¬ x.toInt < 0) : sg x = 1 := by
 have := toInt_ne h
 rw [sg, if_neg h2, if_pos (by omega)]
theorem All (i : Nat) : stp i = 4 ∨ stp i = 2 ∨ stp i = 1 := by
 unfold stp
 by_cases h : i = 0
 ·rw [if_pos h]; exact .inl rfl
 ·rw [if_neg h]; split; exact .inr (.inl rfl); exact .inr (.inr rfl)
theorem Bf6 {x w : Int32} (hx : x ≠ 0) (hw : w ≠ 0) (h : (x.toInt < 0) = (w.toInt < 0)) (i : Nat) : stp i * sg x * sg w = stp i := by
 by_cases h1 : x.toInt < 0
 ·rw [Axp h1, Axp (by rw [← h]; exact h1)]
  obtain e | e | e := All i <;> rw [e] <;> decide
 ·rw [Aw9 hx h1, Aw9 hw (by rw [← h]; exact h1)]
  obtain e | e | e := All i <;> rw [e] <;> decide
theorem Bbs {x w : Int32} (hx : x ≠ 0) (hw : w ≠ 0) (h : ¬ (x.toInt < 0) = (w.toInt < 0)) (i : Nat) (a : Int32) : a + stp i * sg x * sg w = a - stp i := by
 have key : stp i * sg x * sg w = - stp i := by
  by_cases h1 : x.toInt < 0
  ·have h2 : ¬ w.toInt < 0 := fun h2 => h (propext ⟨fun _ => h2, fun _ => h1⟩)
   rw [Axp h1, Aw9 hw h2]
   obtain e | e | e := All i <;> rw [e] <;> decide
  ·have h2 : w.toInt < 0 := Decidable.by_contra fun h2 => h (propext ⟨fun h3 => absurd h3 h1, fun h3 => absurd h3 h2⟩)
   rw [Aw9 hx h1, Axp h2]
   obtain e | e | e := All i <;> rw [e] <;> decide
 rw [key, Int32.sub_eq_add_neg]
def Aos (i : Nat) : Nat → Bool := fun j => decide (j < i)
theorem Asi {a b : List Int32} {i : Nat} (h : i < a.length) : Oi (sel (Aos i) a b) (i : Int) (a.getD i 0) = some (sel (Aos (i + 1)) a b) := by
 rw [An3 h]
 congr 1
 apply Xc
 intro k _
 rw [Bool.eq_iff_iff]
 simp only [Aos, Bool.or_eq_true, decide_eq_true_eq]; omega
theorem Bgq {a b : List Int32} {i : Nat} (e : a.getD i 0 = b.getD i 0) : sel (Aos i) a b = sel (Aos (i + 1)) a b := by
 apply List.map_congr_left
 intro k _
 simp only [Aos, decide_eq_true_eq]
 by_cases h1 : k < i
 ·rw [if_pos h1, if_pos (by omega)]
 ·by_cases h2 : k = i
  ·subst h2; rw [if_neg h1, if_pos (by omega), e]
  ·rw [if_neg h1, if_neg (by omega)]
theorem Azo {a b : List Int32} {i : Nat} (h : i < a.length) : Aj (sel (Aos i) a b) (i : Int) = some (b.getD i 0) := by
 rw [Afm h, if_neg (by simp [Aos])]
theorem Awk {s : Int} {t p : List Int32} {w : Int32} (hw : w ≠ 0) (ht : t.length = 16) (hp : p.length = 16) : ∀ (j i q : Nat), i + j = 16 → j < q → Qf w p s q (i : Int) (sel (Aos i) (lrn t p w) t) = some (s, lrn t p w, p, 0)
 | 0, i, q + 1, hi, _ => by
  obtain rfl : i = 16 := by omega
  rw [Qf, Aa9, if_neg (by rw [Af]; simp), Aoj (fun k hk => by rw [Aa6] at hk; simpa [Aos] using hk)]; rfl
 | j + 1, i, q + 1, hi, hq => by
  have hl := Aa6 t p w
  have hg := Ax4 t p w (i := i) (by omega)
  rw [Qf, Aa9, if_pos (by rw [Af]; simp; omega), g32 (by omega), Aa, Ag (b := 1) (by omega) (by omega), Azo (by omega), step_eq]
  simp only [Aa]
  rw [Ahi, Arv, Ben, Axa, Axa, show (0 : Int32).toInt = 0 from rfl]
  have ih := Awk (s := s) hw ht hp j (i + 1) q (by omega) (by omega)
  by_cases hx : p.getD i 0 = 0
  ·rw [if_pos (by rw [hx]; rfl), Bgq (by rw [hg, hx, Bd3, Int32.mul_zero, Int32.zero_mul, Int32.add_zero])]
   exact ih
  ·rw [if_neg (by simpa using hx)]
   by_cases hs : ((p.getD i 0).toInt < 0) = (w.toInt < 0)
   ·rw [if_pos (by rw [beq_iff_eq]; simp only [hs]), show t.getD i 0 + stp i = (lrn t p w).getD i 0 by rw [hg, Bf6 hx hw hs], Asi (by omega), Aa]
    exact ih
   ·rw [if_neg (by rw [beq_iff_eq, decide_eq_decide]; exact fun h => hs (propext h)), show t.getD i 0 - stp i = (lrn t p w).getD i 0 by rw [hg, Bbs hx hw hs], Asi (by omega), Aa]
    exact ih
theorem Bkc {t : List Int32} (p : List Int32) (ht : t.length = 16) : lrn t p 0 = t := by
 apply List.ext_getElem (by rw [Aa6, ht])
 intro i h1 h2
 have := Ax4 t p 0 (i := i) (by omega)
 rw [Kl h1, Kl h2] at this
 rw [this, Bd3, Int32.mul_zero, Int32.add_zero]
theorem Bic {s : Int} {t p : List Int32} (h : OkF s t p) (w : Int32) : Ah2 s t p w = some (s, lrn t p w, p, 0) := by
 rw [Ah2, Ago, Apc h, Aa, if_neg (by rw [As]; simp), Ben]
 by_cases hw : w = 0
 ·rw [if_pos (by simpa using hw), hw, Bkc p h.2.1]
 ·have h1 := Awk (s := s) hw h.2.1 h.2.2 16 0 Ba (by omega) (by have := Ay; omega)
  rw [Aod (by rw [Aa6, h.2.1]) (fun k _ => by simp [Aos])] at h1
  rw [if_neg (by simpa using hw)]
  exact h1
theorem Aom {s : Int} {t p : List Int32} {w : Int32} (ht : t.length = 16) (hp : p.length = 16) : ∀ (j i q : Nat), i + j = 16 → j < q → Dz w s p q (i : Int) (sel (Aos i) (lrn t p w) t) = some (s, lrn t p w, p)
 | 0, i, q + 1, hi, _ => by
  obtain rfl : i = 16 := by omega
  rw [Dz, Hw, if_neg (by rw [Af]; simp), Aoj (fun k hk => by rw [Aa6] at hk; simpa [Aos] using hk)]; rfl
 | j + 1, i, q + 1, hi, hq => by
  have hl := Aa6 t p w
  have hg := Ax4 t p w (i := i) (by omega)
  rw [Dz, Hw, if_pos (by rw [Af]; simp; omega), g32 (l := p) (by omega), Ag (b := 1) (by omega) (by omega), Azo (by omega), Bff, sign_eq w, Aa, Aa, Aa, Aa, Aa, sign_eq, Aa, Aa, Aa, Ahi, As0, As0, ← hg, Asi (by omega), Aa]
  exact Aom ht hp j (i + 1) q (by omega) (by omega)
theorem Bca {s : Int} {t p : List Int32} (h : OkF s t p) (w : Int32) : Tn s t p w = some (s, lrn t p w, p) := by
 have h1 := Aom (s := s) (w := w) h.2.1 h.2.2 16 0 Ba (by omega) (by have := Ay; omega)
 rw [Aod (by rw [Aa6, h.2.1]) (fun k _ => by simp [Aos])] at h1
 exact h1
theorem Blp {p : List Int32} (h : p.length = 16) : ∃ a0 a1 a2 a3 a4 a5 a6 a7 a8 a9 b0 b1 b2 b3 b4 b5, p = [a0, a1, a2, a3, a4, a5, a6, a7, a8, a9, b0, b1, b2, b3, b4, b5] := by
 match p, h with
 | [a0, a1, a2, a3, a4, a5, a6, a7, a8, a9, b0, b1, b2, b3, b4, b5], _ => exact ⟨a0, a1, a2, a3, a4, a5, a6, a7, a8, a9, b0, b1, b2, b3, b4, b5, rfl⟩
theorem Bmy {s : Int} {t p : List Int32} (h : OkF s t p) (x : Int32) : Alv s t p x = some (s, t, x :: p.take 15, 0) := by
 obtain ⟨hs, ht, hp⟩ := h
 rw [Alv, Adj, Apc ⟨hs, ht, hp⟩, Aa, if_neg (by rw [As]; simp), show vwI (16 : Int) 1 16 = some () from rfl, Aa, show vwI (16 : Int) 0 16 = some () from rfl, Aa, Aja, Aon]
 obtain ⟨a0, a1, a2, a3, a4, a5, a6, a7, a8, a9, b0, b1, b2, b3, b4, b5, rfl⟩ := Blp hp
 rfl
def shf (p : List Int32) (i : Nat) : List Int32 := (List.range 16).map fun k => if k ≤ i then p.getD k 0 else p.getD (k - 1) 0
theorem Vr (p : List Int32) (i : Nat) : (shf p i).length = 16 := by simp [shf]
theorem Bll (p : List Int32) (i k : Nat) (h : k < 16) : (shf p i).getD k 0 = if k ≤ i then p.getD k 0 else p.getD (k - 1) 0 := by
 rw [Kl (by rw [Vr]; exact h)]; simp [shf]
theorem Bm2 (p : List Int32) (i : Nat) (h : i + 1 < 16) : Oi (shf p (i + 1)) ((i + 1 : Nat) : Int) (p.getD i 0) = some (shf p i) := by
 rw [Us _ (by rw [Vr]; exact h)]
 congr 1
 apply List.ext_getElem (by simp [Vr])
 intro k h1 h2
 rw [Vr] at h2
 rw [List.getElem_set]
 simp only [shf, List.getElem_map, List.getElem_range]
 by_cases hk : i + 1 = k
 ·subst hk; rw [if_pos rfl, if_neg (by omega)]; rfl
 ·rw [if_neg hk]
  by_cases h3 : k ≤ i
  ·rw [if_pos (by omega), if_pos h3]
  ·rw [if_neg (by omega), if_neg h3]
theorem Apz (s : Int) (t p : List Int32) (x : Int32) (hp : p.length = 16) : ∀ (i q : Nat), i < 16 → i < q → En x s t q (i : Int) (shf p i) = some (s, t, x :: p.take 15)
 | 0, q + 1, _, _ => by
  have hg : Aj (shf p 0) (0 : Int) = some ((shf p 0).getD 0 0) := g32 (l := shf p 0) (k := 0) (by rw [Vr]; omega)
  have hset : Oi (shf p 0) (0 : Int) x = some ((shf p 0).set 0 x) := Us (l := shf p 0) (n := 0) x (by rw [Vr]; omega)
  rw [En, Je, if_neg (by rw [Bc]; simp), Pp, Yh, hg, Aa, hset, Aa]
  congr 3
  apply List.ext_getElem (by simp [Vr, hp])
  intro k h1 h2
  rw [List.length_set, Vr] at h1
  rw [List.getElem_set]
  cases k with
  | zero => rw [if_pos rfl]; rfl
  | succ k =>
   rw [if_neg (by omega)]
   simp only [shf, List.getElem_map, List.getElem_range, List.getElem_cons_succ, List.getElem_take]
   rw [if_neg (by omega), Nat.add_sub_cancel, Kl (by omega)]
 | i + 1, q + 1, hi, hq => by
  have hg := g32 (l := shf p (i + 1)) (k := i) (by rw [Vr]; omega)
  rw [Bll p (i + 1) i (by omega), if_pos (by omega)] at hg
  have e1 : Am ((i + 1 : Nat) : Int) (1 : Int) = (i : Int) := by rw [Bt (by omega) (by omega)]; omega
  have hg2 := g32 (l := shf p (i + 1)) (k := i + 1) (by rw [Vr]; omega)
  rw [En, Je, if_pos (by rw [Bc]; simp), e1, hg, Aa, Aa, hg2, Aa, Bm2 p i hi, Aa]
  exact Apz s t p x hp i q (by omega) (by omega)
theorem Bfp {s : Int} {t p : List Int32} (hp : p.length = 16) (x : Int32) : Uy s t p x = some (s, t, x :: p.take 15) := by
 have h := Apz s t p x hp 15 Ba (by omega) (by have := Ay; omega)
 have e : shf p 15 = p := by
  apply List.ext_getElem (by rw [Vr, hp])
  intro k h1 h2
  rw [Vr] at h1
  simp only [shf, List.getElem_map, List.getElem_range]
  rw [if_pos (by omega), Kl h2]
 rw [e] at h
 exact h
theorem Biq {s : Int} {t p : List Int32} (h : OkF s t p) (w x : Int32) : OkF s (lrn t p w) (x :: p.take 15) := ⟨h.1, Aa6 _ _ _, by simp [h.2.2]⟩
theorem Bkr {s : Int} {t p : List Int32} (h : OkF s t p) (y : Int32) : Ak3 s t p y = some (y + gF s t p, s, lrn t p y, (y + gF s t p) :: p.take 15, 0) := by
 rw [Ak3, Bi1 h, Aa]
 simp only
 rw [if_neg (by rw [As]; simp), Ahi, Anb, Bic h, Aa]
 simp only
 rw [Bmy (s := s) (t := lrn t p y) (p := p) ⟨h.1, Aa6 _ _ _, h.2.2⟩, Aa]; rfl
theorem Bgk {s : Int} {t p : List Int32} (h : OkF s t p) (y : Int32) : Li s t p y = some (y + gF s t p, s, lrn t p y, (y + gF s t p) :: p.take 15) := by
 rw [Li, Bk3 h, Aa, An4, Aa, Bca h, Aa]
 simp only
 rw [Bfp h.2.2, Aa]
def sB (bits : Int) : Int := if bits = 16 then 9 else 10
def shB (bits : Int) : Int := if bits = 8 then 4 else 5
def Fx (bits : Int) : Prop := bits = 8 ∨ bits = 16 ∨ bits = 24
def gs (sh : Int) (last : Int32) : Int32 := Ad (Ax6 (Am (Eu (Ad last : Int) sh.toNat) (Ad last)) sh.toNat)
theorem Bpv (bits : Int) : sB bits = 9 ∨ sB bits = 10 := by unfold sB; split <;> simp
theorem Bkx (bits : Int) : 0 ≤ shB bits := by unfold shB; split <;> omega
theorem Bqc {bits : Int} (h : Fx bits) (t : List Int32) : Anp bits t = some (sB bits, t, List.replicate 16 0, 0) := by
 obtain rfl | rfl | rfl := h <;> rfl
theorem Bnu {bits : Int} (h : Fx bits) : Ak0 bits = some (shB bits, 0) := by
 obtain rfl | rfl | rfl := h <;> rfl
theorem Bot {sh : Int} (h : 0 ≤ sh) (last : Int32) : Aft sh last = some (gs sh last) := by
 rw [Aft, Cq (by rw [Dm]; simpa using h), Aa, Aa]; rfl
theorem Boo {bits : Int} (h : Fx bits) (last : Int32) : Ab9 bits last = some (gs (shB bits) last, 0) := by
 rw [Ab9, Bnu h, Aa]
 simp only
 rw [if_neg (by rw [As]; simp), Bot (Bkx bits), Aa]
theorem Bb5 {bits : Int} (h : Fx bits) (last : Int32) (t p : List Int32) : Ab1 bits last (sB bits) t p = some 0 := by
 rw [Ab1, Bqc h, Aa]
 simp only
 rw [if_neg (by rw [As, As]; simp)]
theorem Bgw {bits : Int} (h : Fx bits) {t p : List Int32} (hF : OkF (sB bits) t p) (last y : Int32) :
  Ij bits last (sB bits) t p y = some (y + gF (sB bits) t p + gs (shB bits) last, bits, y + gF (sB bits) t p + gs (shB bits) last, sB bits, lrn t p y, (y + gF (sB bits) t p) :: p.take 15, 0) := by
 rw [Ij, Bb5 h, Aa, if_neg (by rw [As]; simp), Boo h, Aa]
 simp only
 rw [Bkr hF, Aa]
 simp only
 rw [Ahi]
theorem Apj (sh : Int) (hs : sh = 4 ∨ sh = 5) (last : Int32) : Iu sh last = some (gs sh last) := by
 have hl := Ya last
 have key : ∀ n : Int, n = 16 ∨ n = 32 → gs sh last = Int32.ofInt (((n - 1) * last.toInt).fdiv n) → Iz last n = some (gs sh last) := by
  intro n hn hg
  have e : Bp (Am n (1 : Int)) (Ad last : Int) = (n - 1) * last.toInt := by
   obtain rfl | rfl := hn <;> (rw [Ee, Bt (by omega) (by omega), Ih (by omega) (by omega)])
  rw [Iz, Xy, Cq (by rw [As]; simp; omega), Aa, Aa, e, Ayp _ n (by omega) (by obtain rfl | rfl := hn <;> omega) (by obtain rfl | rfl := hn <;> omega), hg]
 rw [Iu, Pa]
 obtain rfl | rfl := hs
 ·rw [if_neg (by rw [Cd]; decide)]
  refine key 16 (.inl rfl) ?_
  have e : Eu (Ad last : Int) (4 : Int).toNat = last.toInt * 16 := by
   rw [Ee]; show wrap64 (last.toInt * 2 ^ 4) = _; rw [Bu] <;> omega
  rw [gs, e, Ee, Bt (by omega) (by omega), Ads]
  show Int32.ofInt ((last.toInt * 16 - last.toInt).fdiv 16) = _
  congr 2; omega
 ·rw [if_pos (by rw [Cd]; rfl)]
  refine key 32 (.inr rfl) ?_
  have e : Eu (Ad last : Int) (5 : Int).toNat = last.toInt * 32 := by
   rw [Ee]; show wrap64 (last.toInt * 2 ^ 5) = _; rw [Bu] <;> omega
  rw [gs, e, Ee, Bt (by omega) (by omega), Ads]
  show Int32.ofInt ((last.toInt * 32 - last.toInt).fdiv 32) = _
  congr 2; omega
theorem Bf3 {bits : Int} (h : Fx bits) {t p : List Int32} (hF : OkF (sB bits) t p) (last y : Int32) :
  Fp bits last (sB bits) t p y = some (y + gF (sB bits) t p + gs (shB bits) last, bits, y + gF (sB bits) t p + gs (shB bits) last, sB bits, lrn t p y, (y + gF (sB bits) t p) :: p.take 15) := by
 have hb : Ms bits last (sB bits) t p = some (Ad (gs (shB bits) last) : Int) := by
  rw [Ms]
  obtain rfl | rfl | rfl := h
  ·rw [if_pos (by rw [Cd]; rfl), Apj 4 (.inl rfl), Aa]; rfl
  ·rw [if_neg (by rw [Cd]; decide), Apj 5 (.inr rfl), Aa]; rfl
  ·rw [if_neg (by rw [Cd]; decide), Apj 5 (.inr rfl), Aa]; rfl
 rw [Fp, Bgk hF, Aa]
 simp only
 rw [hb, Aa, An4, Aa]
theorem Bpu {bits : Int} (h : Fx bits) (t : List Int32) : Aa0 bits t = some (bits, 0, sB bits, t, List.replicate 16 0, 0) := by
 obtain rfl | rfl | rfl := h <;> rfl
def Ajf (n : UInt32) : Int32 := if n.toNat % 2 = 0 then Int32.ofInt ((n.toNat / 2 : Nat) : Int) else Int32.ofInt (-((n.toNat / 2 : Nat) : Int) - 1)
theorem Aza (a b : Int32) : (Vq a b).toBitVec = a.toBitVec ^^^ b.toBitVec := by
 show (Int32.ofInt ((BitVec.ofInt 32 a.toBitVec.toInt ^^^ BitVec.ofInt 32 b.toBitVec.toInt).toNat : Int)).toBitVec = _
 rw [BitVec.ofInt_toInt, BitVec.ofInt_toInt, Int32.toBitVec_ofInt, BitVec.ofInt_natCast, BitVec.ofNat_toNat, BitVec.setWidth_eq]
theorem Bph (m : Nat) (h : m < 2147483648) : Vq (Int32.ofInt (m : Int)) (Int32.ofInt (-1)) = Int32.ofInt (-(m : Int) - 1) := by
 apply Int32.toBitVec_inj.1
 have e1 : (Int32.ofInt (-1)).toBitVec = BitVec.allOnes 32 := by decide
 rw [Aza, e1, BitVec.xor_allOnes, Int32.toBitVec_ofInt, Int32.toBitVec_ofInt]
 apply BitVec.eq_of_toNat_eq
 rw [BitVec.toNat_not, BitVec.toNat_ofInt, BitVec.toNat_ofInt]
 omega
theorem Biv (n : UInt32) : Ue n = some (Ajf n) := by
 have hn := n.toNat_lt
 have e1 : (Ad (Cj n (GI.toZ (1 : UInt64)).toNat) : Int32) = Int32.ofInt ((n.toNat / 2 : Nat) : Int) := by
  show Int32.ofInt ((Cj n 1).toNat : Int) = _
  rw [Ag8]
 have e2 : (Ad (He n (1 : UInt32)) : Int32) = Int32.ofInt ((n.toNat % 2 : Nat) : Int) := by
  show Int32.ofInt ((He n (1 : UInt32)).toNat : Int) = _
  rw [Baz, UInt32.toNat_and]
  show Int32.ofInt ((n.toNat &&& 1 : Nat) : Int) = _
  rw [Nat.and_one_is_mod]
 rw [Ue, e1, e2, Ajf]
 congr 1
 by_cases h : n.toNat % 2 = 0
 ·have e3 : An9 (Int32.ofInt ((n.toNat % 2 : Nat) : Int)) = Int32.ofInt 0 := by rw [h]; decide
  rw [if_pos h, e3]
  apply Int32.toBitVec_inj.1
  rw [Aza, show (Int32.ofInt 0).toBitVec = 0#32 from rfl, BitVec.xor_zero]
 ·have e3 : An9 (Int32.ofInt ((n.toNat % 2 : Nat) : Int)) = Int32.ofInt (-1) := by rw [show n.toNat % 2 = 1 by omega]; decide
  rw [if_neg h, e3, Bph _ (by omega)]
theorem Bkt (n : UInt32) : Hy n = some (Ajf n) := by
 have hn := n.toNat_lt
 have e1 : geq (Xo n (2 : UInt32)) (0 : UInt32) = decide (n.toNat % 2 = 0) := by
  rw [Awu, Bba, Bool.eq_iff_iff]
  simp only [beq_iff_eq, ← UInt32.toNat_inj, UInt32.toNat_mod, decide_eq_true_eq]; rfl
 rw [Hy, e1, Ajf]
 by_cases h : n.toNat % 2 = 0
 ·rw [if_pos (by simpa using h), if_pos h, Aym]; rfl
 ·have e2 : (Ad n : Int) = (n.toNat : Int) := Bb6 n
  rw [if_neg (by simpa using h), if_neg h, e2, Ag (by omega) (by omega), Bcz, Bu (by omega) (by omega), Ae9, Int.tdiv_eq_ediv, Ads]
  congr 2
  rw [if_pos (.inr (by omega)), Bu (by omega) (by omega)]; omega
end Go.Pl
set_option linter.unusedVariables false
set_option linter.unusedSimpArgs false
namespace Go.Pl
open Go Go.Lv
theorem Baf {c : Prop} [Decidable c] (h : c) : Sa (decide c) = some () := by rw [decide_eq_true h]; rfl
def unV (f : Nat → Int32) (ch : Nat) : Nat → Int32
 | 0 => if 1 < ch then f (ch - 1) + Dc (f (ch - 2)) (2 : Int32) else f (ch - 1)
 | j + 1 => unV f ch j - f (ch - 2 - j)
def unm (ch : Nat) (m : List Int32) : List Int32 := (List.range m.length).map fun k => unV (fun i => m.getD (k - k % ch + i) 0) ch (ch - 1 - k % ch)
theorem Alg (ch : Nat) (m : List Int32) : (unm ch m).length = m.length := by simp [unm]
theorem Aq3 {ch : Nat} {m : List Int32} {a i : Nat} (ha : a % ch = 0) (hi : i < ch) (h : a + i < m.length) : (unm ch m).getD (a + i) 0 = unV (fun i => m.getD (a + i) 0) ch (ch - 1 - i) := by
 have hb : (a + i) % ch = i := by rw [Nat.add_mod, ha, Nat.zero_add, Nat.mod_mod, Nat.mod_eq_of_lt hi]
 rw [Kl (by rw [Alg]; exact h)]
 simp only [unm, List.getElem_map, List.getElem_range, hb]
 rw [show a + i - i = a by omega]
section
variable (ch : Nat) (m : List Int32)
theorem Bhu (h1 : 1 ≤ ch) (h6 : ch ≤ 6) (hm : m.length % ch = 0) (hl2 : m.length ≤ 4000) : Alx (ch : Int) m = some 0 := by
 rw [Alx, if_neg (by simp [Af, Bc]; omega), if_neg (by rw [Bc, Ac]; simp; omega), Cq (by rw [As]; simp; omega), Aa, if_neg]
 rw [As, Il, Ac, ← Int.ofNat_tmod, hm]; simp
theorem Aud (bk : Int → List Int32 → Option (List Int32 × Int)) (at' : Nat) (h1 : 1 ≤ ch) (h6 : ch ≤ 6) (hm : at' % ch = 0) (hl : at' + ch ≤ m.length) (hl2 : m.length ≤ 4000) : ∀ (i q : Nat), i ≤ ch - 1 → i < q →
  Ud bk (ch : Int) (at' : Int) q ((i : Int) - 1) (sel (fun k => decide (k < at' ∨ (at' + i ≤ k ∧ k < at' + ch))) (unm ch m) m) = bk ((at' + ch : Nat) : Int) (sel (fun k => decide (k < at' + ch)) (unm ch m) m)
 | 0, q + 1, hi, _ => by
  have e4 : Ae (at' : Int) (ch : Int) = ((at' + ch : Nat) : Int) := by rw [Ag (by omega) (by omega)]; omega
  rw [Ud, Adq, if_neg (by rw [Dm]; simp), Aii, Aoc, e4]
  congr 1
  apply Xc
  intro k _
  rw [Bool.eq_iff_iff]; simp; omega
 | i + 1, q + 1, hi, hq => by
  have hlen := Alg ch m
  have e2 : Ae (at' : Int) (ch : Int) - (at' : Int) = (ch : Int) := by rw [Ag (by omega) (by omega)]; omega
  have e3 : Ae (i : Int) 1 = ((i + 1 : Nat) : Int) := by rw [Ag (by omega) (by omega)]; omega
  have hv : ((unm ch m).getD (at' + (i + 1)) 0 - m.getD (at' + i) 0) = (unm ch m).getD (at' + i) 0 := by
   rw [Aq3 hm (by omega) (by omega), Aq3 hm (by omega) (by omega), show ch - 1 - i = (ch - 1 - (i + 1)) + 1 by omega, unV, show ch - 2 - (ch - 1 - (i + 1)) = i by omega]
  rw [Ud, Adq, show ((i + 1 : Nat) : Int) - 1 = (i : Int) by omega, if_pos (by rw [Dm]; simp), e2, e3, Baf (by omega), Aa, Baf (by omega), Aa,
   show (at' : Int) + ((i + 1 : Nat) : Int) = ((at' + (i + 1) : Nat) : Int) by omega, show (at' : Int) + (i : Int) = ((at' + i : Nat) : Int) by omega,
   Afm (by omega), Aa, Afm (by omega), Aa, Aa, if_pos (by simp; omega), if_neg (by simp; omega), Arv, hv, An3 (by omega), Aa, Bt (by omega) (by omega)]
  have ih := Aud bk at' h1 h6 hm hl hl2 i q (by omega) (by omega)
  rw [← ih]
  congr 1
  apply Xc
  intro k _
  rw [Bool.eq_iff_iff]; simp; omega
theorem Bbd {at' ch n : Nat} (ha : at' % ch = 0) (hm : n % ch = 0) (h : at' < n) : at' + ch ≤ n := by
 have d1 := Nat.div_add_mod at' ch
 have d2 := Nat.div_add_mod n ch
 rw [ha, Nat.add_zero] at d1
 rw [hm, Nat.add_zero] at d2
 have hlt : at' / ch < n / ch := by
  rcases Nat.lt_or_ge (at' / ch) (n / ch) with h' | h'
  ·exact h'
  ·have := Nat.mul_le_mul_left ch h'; omega
 have := Nat.mul_le_mul_left ch (show at' / ch + 1 ≤ n / ch from hlt)
 rw [Nat.mul_add] at this; omega
theorem Avt (h1 : 1 ≤ ch) (h6 : ch ≤ 6) (hm : m.length % ch = 0) (hl2 : m.length ≤ 4000) : ∀ (j at' q : Nat), at' % ch = 0 → at' ≤ m.length → m.length - at' ≤ j → j < q →
  On (ch : Int) q (at' : Int) (sel (fun k => decide (k < at')) (unm ch m) m) = some (unm ch m, 0)
 | j, at', q + 1, ha, hle, hj, hq => by
  have hlen := Alg ch m
  have hl : Ac (sel (fun k => decide (k < at')) (unm ch m) m) = (m.length : Int) := by rw [Ac, Ah8, hlen]
  rw [On, Ajd, hl]
  by_cases h : at' < m.length
  ·have hb := Bbd ha hm h
   obtain ⟨j, rfl⟩ : ∃ k, j = k + 1 := ⟨j - 1, by omega⟩
   have e1 : Am (Ae (at' : Int) (ch : Int) - (at' : Int)) 1 = ((ch - 1 : Nat) : Int) := by rw [Ag (by omega) (by omega), Bt (by omega) (by omega)]; omega
   have e2 : Ae (at' : Int) (ch : Int) - (at' : Int) = (ch : Int) := by rw [Ag (by omega) (by omega)]; omega
   have e4 : Ae (at' : Int) (ch : Int) = ((at' + ch : Nat) : Int) := by rw [Ag (by omega) (by omega)]; omega
   have hi := Aud ch m (On (ch : Int) q) at' h1 h6 ha hb hl2 (ch - 1) Ba (by omega) (by have := Ay; omega)
   have hrest := Avt h1 h6 hm hl2 j (at' + ch) q (by rw [Nat.add_mod_right, ha]) hb (by omega) (by omega)
   have hstart : Adp (On (ch : Int) q) (ch : Int) (at' : Int) (sel (fun k => decide (k < at' ∨ (at' + (ch - 1) ≤ k ∧ k < at' + ch))) (unm ch m) m) = some (unm ch m, 0) := by
    have e6 : Am ((ch - 1 : Nat) : Int) 1 = ((ch - 1 : Nat) : Int) - 1 := Bt (by omega) (by omega)
    rw [Adp, Ai8, Aid, e1, e6]
    exact Eq.trans hi hrest
   rw [if_pos (by rw [Af]; simp; omega), show vwI (m.length : Int) (at' : Int) (Ae (at' : Int) (ch : Int)) = some () by rw [e4, vwI, Baf]; omega, Aa, e1, e2]
   have hlast := Aq3 (m := m) ha (show ch - 1 < ch by omega) (by omega)
   rw [show ch - 1 - (ch - 1) = 0 by omega, unV] at hlast
   by_cases hc : 1 < ch
   ·have e5 : Am ((ch - 1 : Nat) : Int) 1 = ((ch - 2 : Nat) : Int) := by rw [Bt (by omega) (by omega)]; omega
    rw [if_pos hc] at hlast
    rw [if_pos (by rw [Bc]; simp; omega), Baf (by omega), Aa, e5, Baf (by omega), Aa, show (at' : Int) + ((ch - 1 : Nat) : Int) = ((at' + (ch - 1) : Nat) : Int) by omega, show (at' : Int) + ((ch - 2 : Nat) : Int) = ((at' + (ch - 2) : Nat) : Int) by omega,
     Afm (by omega), Aa, Afm (by omega), Aa, Aa, if_neg (by simp), if_neg (by simp), Ahi, ← hlast, An3 (by omega), Aa]
    rw [← hstart]
    congr 1
    apply Xc
    intro k _
    rw [Bool.eq_iff_iff]; simp; omega
   ·have hc1 : ch = 1 := by omega
    rw [if_neg (by rw [Bc]; simp; omega), ← hstart]
    congr 1
    rw [if_neg hc] at hlast
    apply List.map_congr_left
    intro k hk
    by_cases hk2 : k = at'
    ·subst hk2
     rw [if_neg (by simp), if_pos (by simp; omega)]
     rw [show k + (ch - 1) = k by omega] at hlast
     exact hlast.symm
    ·by_cases hk3 : k < at'
     ·rw [if_pos (by simp; omega), if_pos (by simp; omega)]
     ·rw [if_neg (by simp; omega), if_neg (by simp; omega)]
  ·rw [if_neg (by rw [Af]; simp; omega), Aoj (fun k hk => by simp; omega)]
   rfl
theorem Bmf (h1 : 1 ≤ ch) (h6 : ch ≤ 6) (hm : m.length % ch = 0) (hl2 : m.length ≤ 4000) : Aoq (ch : Int) m = some (unm ch m, 0) := by
 have hlen := Alg ch m
 have h := Avt ch m h1 h6 hm hl2 m.length 0 Ba (by simp) (by omega) (by omega) (by have := Ay; omega)
 rw [Aoq, Aki, Bhu ch m h1 h6 hm hl2, Aa, if_neg (by rw [As]; simp), Fj, Gp (by simp; omega), Aa, Aa, List.nil_append, Ah6]
 rw [Aod hlen.symm (fun k _ => by simp)] at h
 exact h
end
def Ao3 (f : Nat → Int32) (ch : Nat) : List Int32 := (List.range ch).map fun i => unV f ch (ch - 1 - i)
theorem Ahp (f : Nat → Int32) (ch : Nat) : (Ao3 f ch).length = ch := by simp [Ao3]
theorem Aoe (f : Nat → Int32) {ch i : Nat} (h : i < ch) : (Ao3 f ch).getD i 0 = unV f ch (ch - 1 - i) := by
 rw [Kl (by rw [Ahp]; exact h)]; simp [Ao3]
theorem Bjj (a b : Int32) : Bl (Am (Ad a : Int) (Ad b : Int)) = some (a - b) := by
 have := Ya a
 have := Ya b
 rw [Ee, Ee, Bt (by omega) (by omega), Arb, Int32.ofInt_sub, Int32.ofInt_toInt, Int32.ofInt_toInt]
theorem Bf0 (a b : Int32) : Bl (Ae (Ad a : Int) (Dc (Ad b : Int) (2 : Int))) = some (a + Dc b (2 : Int32)) := by
 have := Ya a
 have hb := Ya b
 have hd : -2147483648 ≤ b.toInt.tdiv 2 ∧ b.toInt.tdiv 2 ≤ 2147483648 := by
  rw [Int.tdiv_eq_ediv, show Int.sign 2 = 1 from rfl]
  by_cases h : 0 ≤ b.toInt ∨ 2 ∣ b.toInt
  ·rw [if_pos h]; omega
  ·rw [if_neg h]; omega
 have e : Dc b (2 : Int32) = Int32.ofInt (b.toInt.tdiv 2) := rfl
 rw [Ee, Ee, Ae9, Bu (by omega) (by omega), Ag (by omega) (by omega), Arb, Int32.ofInt_add, Int32.ofInt_toInt, e]
theorem An6 (seg z : List Int32) (ch : Nat) (h6 : ch ≤ 6) (hs : seg.length = ch) (hz : z.length = ch) : ∀ (i q : Nat), i + 1 ≤ ch → i < q →
  Ea seg q ((i : Int) - 1) (sel (fun k => decide (i ≤ k)) (Ao3 (fun i => seg.getD i 0) ch) z) = some (Ao3 (fun i => seg.getD i 0) ch)
 | 0, q + 1, hi, _ => by
  rw [Ea, Ic, if_neg (by rw [Dm]; simp), Aoj (fun k hk => by simp)]; rfl
 | i + 1, q + 1, hi, hq => by
  have hlen := Ahp (fun i => seg.getD i 0) ch
  have e3 : Ae (i : Int) 1 = ((i + 1 : Nat) : Int) := by rw [Ag (by omega) (by omega)]; omega
  have hv : (Ao3 (fun i => seg.getD i 0) ch).getD (i + 1) 0 - seg.getD i 0 = (Ao3 (fun i => seg.getD i 0) ch).getD i 0 := by
   rw [Aoe _ (by omega), Aoe _ (by omega), show ch - 1 - i = (ch - 1 - (i + 1)) + 1 by omega, unV, show ch - 2 - (ch - 1 - (i + 1)) = i by omega]
  rw [Ea, Ic, show ((i + 1 : Nat) : Int) - 1 = (i : Int) by omega, if_pos (by rw [Dm]; simp), e3, Afm (by omega), Aa, g32 (by omega), Aa, Aa, if_pos (by simp), Bjj, Aa, Afm (by omega), Aa, hv, An3 (by omega), Aa, Bt (by omega) (by omega)]
  have ih := An6 seg z ch h6 hs hz i q (by omega) (by omega)
  rw [← ih]
  congr 1
  apply Xc
  intro k _
  rw [Bool.eq_iff_iff]; simp; omega
theorem Bav {l : List Int32} {i : Nat} (v : Int32) (h : i < l.length) : (l.set i v).getD i 0 = v := by
 rw [Kl (by rw [List.length_set]; exact h)]; simp
theorem Bbv (seg : List Int32) (ch : Nat) (h1 : 1 ≤ ch) (h6 : ch ≤ 6) (hs : seg.length = ch) : Ly seg = some (Ao3 (fun i => seg.getD i 0) ch) := by
 have hlen := Ahp (fun i => seg.getD i 0) ch
 have hzl : (List.replicate ch (0 : Int32)).length = ch := by simp
 have e1 : Am (Ac seg) 1 = ((ch - 1 : Nat) : Int) := by rw [Ac, hs, Bt (by omega) (by omega)]; omega
 have e2 : Am (Ac seg) 2 = ((ch - 1 : Nat) : Int) - 1 := by rw [Ac, hs, Bt (by omega) (by omega)]; omega
 have hlast := Aoe (fun i => seg.getD i 0) (show ch - 1 < ch by omega)
 rw [show ch - 1 - (ch - 1) = 0 by omega, unV] at hlast
 have hend : ∀ z : List Int32, z.length = ch → z.getD (ch - 1) 0 = (Ao3 (fun i => seg.getD i 0) ch).getD (ch - 1) 0 → Ia seg z = some (Ao3 (fun i => seg.getD i 0) ch) := by
  intro z hz hzl
  have h := An6 seg z ch h6 hs hz (ch - 1) Ba (by omega) (by have := Ay; omega)
  have e : sel (fun k => decide (ch - 1 ≤ k)) (Ao3 (fun i => seg.getD i 0) ch) z = z := by
   apply List.ext_getElem (by rw [Ah8, hlen, hz])
   intro k k1 k2
   rw [Xf]
   by_cases hk : ch - 1 ≤ k
   ·obtain rfl : k = ch - 1 := by omega
    rw [if_pos (by simp), ← hzl, Kl k2]
   ·rw [if_neg (by simpa using hk), Kl k2]
  rw [e] at h
  rw [Ia, Nt, e2]
  exact h
 rw [Ly, Of, Ac, hs, Ar0 (by omega) (by omega), Aa, Cq (by rw [Cd]; simp), Aa]
 rw [Ac, hs] at e1
 rw [Ac, hs] at e2
 have hz1 : (List.replicate (Int.toNat (ch : Int)) (0 : Int32)).length = ch := by simp
 have hs1 := g32 (l := seg) (k := ch - 1) (by omega)
 rw [e1, hs1, Aa, g32 (by omega), Aa, Us _ (by omega), Aa]
 by_cases hc : 1 < ch
 ·rw [if_pos hc] at hlast
  have e3 : ((ch - 1 : Nat) : Int) - 1 = ((ch - 2 : Nat) : Int) := by omega
  have hs2 := g32 (l := seg) (k := ch - 2) (by omega)
  rw [if_pos (by rw [Bc]; simp; omega), Aa, e2, e3, hs2, Aa, Bf0, Aa, g32 (by rw [List.length_set]; omega), Aa, Us _ (by rw [List.length_set]; omega), Aa]
  refine hend _ (by simp) ?_
  rw [hlast, Bav _ (by rw [List.length_set]; omega)]
 ·rw [if_neg hc] at hlast
  rw [if_neg (by rw [Bc]; simp; omega)]
  refine hend _ (by simp) ?_
  rw [hlast, Bav _ (by omega)]
theorem Bkl (ch : Nat) (m : List Int32) (h1 : 1 ≤ ch) (h6 : ch ≤ 6) (hm : m.length % ch = 0) (hl2 : m.length ≤ 4000) : Jn (ch : Int) m = some 0 := by
 rw [Jn, if_neg (by simp [Af, Bc]; omega), if_neg (by rw [Bc, Ac]; simp; omega), Cq (by rw [As]; simp; omega), Aa, if_neg]
 rw [Bc, Il, Ac, ← Int.ofNat_tmod, hm]; simp
theorem Aqn (ch : Nat) (m : List Int32) (h1 : 1 ≤ ch) (h6 : ch ≤ 6) (hm : m.length % ch = 0) (hl2 : m.length ≤ 4000) : ∀ (j at' q : Nat), at' % ch = 0 → at' ≤ m.length → m.length - at' ≤ j → j < q →
  Hr (ch : Int) m q (at' : Int) ((unm ch m).take at') = some (unm ch m, 0)
 | j, at', q + 1, ha, hle, hj, hq => by
  have hlen := Alg ch m
  rw [Hr, Th]
  by_cases h : at' < m.length
  ·have hb := Bbd ha hm h
   have e4 : Ae (at' : Int) (ch : Int) = ((at' + ch : Nat) : Int) := by rw [Ag (by omega) (by omega)]; omega
   have hrest := Aqn ch m h1 h6 hm hl2 (j - 1) (at' + ch) q (by rw [Nat.add_mod_right, ha]) hb (by omega) (by omega)
   have hseg : ((m.take (at' + ch)).drop at').length = ch := by simp; omega
   have htl : ((unm ch m).take at').length = at' := by simp [hlen]; omega
   rw [if_pos (by rw [Af, Ac]; simp; omega), e4, Ad8 (by omega) (by omega) (by omega), Aa, show ((at' + ch : Nat) : Int).toNat = at' + ch from rfl, show (at' : Int).toNat = at' from rfl, Bbv _ ch h1 h6 hseg, Aa, Gp (by rw [htl, Ahp]; omega), Aa]
   have e : (unm ch m).take at' ++ Ao3 (fun i => ((m.take (at' + ch)).drop at').getD i 0) ch = (unm ch m).take (at' + ch) := by
    apply List.ext_getElem (by rw [List.length_append, htl, Ahp, List.length_take, hlen]; omega)
    intro k k1 k2
    rw [List.length_take, hlen] at k2
    rw [List.getElem_append, List.getElem_take]
    by_cases hk : k < at'
    ·rw [dif_pos (by rw [htl]; exact hk), List.getElem_take]
    ·rw [dif_neg (by rw [htl]; exact hk)]
     have hu := Aq3 (m := m) ha (show k - at' < ch by omega) (by omega)
     rw [show at' + (k - at') = k by omega, Kl (by omega)] at hu
     have hx : ∀ n, n ≤ ch → unV (fun i => ((m.take (at' + ch)).drop at').getD i 0) ch n = unV (fun i => m.getD (at' + i) 0) ch n := by
      have hf : ∀ i, i < ch → ((m.take (at' + ch)).drop at').getD i 0 = m.getD (at' + i) 0 := by
       intro i hi
       rw [Kl (by omega), Kl (by omega)]; simp
      intro n
      induction n with
      | zero =>
       intro _; rw [unV, unV, hf _ (by omega)]; split
       ·rw [hf _ (by omega)]
       ·rfl
      | succ n ih => intro hn; rw [unV, unV, ih (by omega), hf _ (by omega)]
     have hy := Aoe (fun i => ((m.take (at' + ch)).drop at').getD i 0) (show k - at' < ch by omega)
     rw [Kl (by rw [Ahp]; omega)] at hy
     rw [hu, ← hx _ (by omega), ← hy]
     congr 1
     rw [htl]
   rw [e]
   exact hrest
  ·rw [if_neg (by rw [Af, Ac]; simp; omega), List.take_of_length_le (by omega)]; rfl
theorem Bg5 (ch : Nat) (m : List Int32) (h1 : 1 ≤ ch) (h6 : ch ≤ 6) (hm : m.length % ch = 0) (hl2 : m.length ≤ 4000) : Ro (ch : Int) m = some (unm ch m, 0) := by
 have h := Aqn ch m h1 h6 hm hl2 m.length 0 Ba (by simp) (by omega) (by omega) (by have := Ay; omega)
 rw [Ro, Sd, Bkl ch m h1 h6 hm hl2, Aa, if_neg (by rw [As]; simp)]
 exact h
end Go.Pl
set_option linter.unusedVariables false
set_option linter.unusedSimpArgs false
namespace Go.Pl
open Go Go.Lv
def pre {α : Type} (ch c : Nat) (f : α → Nat → α) (a0 : α) : Nat → α
 | 0 => a0
 | m + 1 => if m % ch = c then f (pre ch c f a0 m) m else pre ch c f a0 m
theorem Bd1 {α : Type} (ch c : Nat) (f : α → Nat → α) (a0 : α) : ∀ m, m ≤ c → c < ch → pre ch c f a0 m = a0
 | 0, _, _ => rfl
 | m + 1, h, h2 => by rw [pre, if_neg (by rw [Nat.mod_eq_of_lt (by omega)]; omega), Bd1 ch c f a0 m (by omega) h2]
theorem Bae {α : Type} (ch c i : Nat) (f : α → Nat → α) (a0 : α) (hi : i % ch = c) (hc : c < ch) : ∀ j, j < ch → pre ch c f a0 (i + 1 + j) = pre ch c f a0 (i + 1)
 | 0, _ => rfl
 | j + 1, h => by
  have hne : (i + 1 + j) % ch ≠ c := by
   intro e
   have h1 : (i + (1 + j)) % ch = i % ch := by rw [hi, ← e]; congr 1; omega
   have h2 : (1 + j) % ch = 0 := by
    have h3 := Nat.sub_mod_eq_zero_of_mod_eq h1
    rwa [Nat.add_sub_cancel_left] at h3
   rw [Nat.mod_eq_of_lt (by omega)] at h2; omega
  rw [show i + 1 + (j + 1) = (i + 1 + j) + 1 by omega, pre, if_neg hne, Bae ch c i f a0 hi hc j (by omega)]
theorem Bj5 {α : Type} (ch c i : Nat) (f : α → Nat → α) (a0 : α) (hi : i % ch = c) (hc : c < ch) : pre ch c f a0 (i + ch) = f (pre ch c f a0 i) i := by
 have h := Bae ch c i f a0 hi hc (ch - 1) (by omega)
 rw [show i + 1 + (ch - 1) = i + ch by omega] at h
 rw [h, pre, if_pos hi]
abbrev CS := Int32 × List Int32 × List Int32
def Bh0 (bits : Int) (s : CS) (y : Int32) : Int32 := y + gF (sB bits) s.2.1 s.2.2 + gs (shB bits) s.1
def Bdh (bits : Int) (s : CS) (y : Int32) : CS := (Bh0 bits s y, lrn s.2.1 s.2.2 y, (y + gF (sB bits) s.2.1 s.2.2) :: s.2.2.take 15)
def cst (bits : Int) (ch : Nat) (t : List Int32) (v : List UInt32) (c : Nat) : Nat → CS := pre ch c (fun s i => Bdh bits s (Ajf (v.getD i 0))) (0, t, List.replicate 16 0)
def OkC (bits : Int) (s : CS) : Prop := OkF (sB bits) s.2.1 s.2.2
theorem Bcj (bits : Int) (ch : Nat) {t : List Int32} (ht : t.length = 16) (v : List UInt32) (c : Nat) : ∀ m, OkC bits (cst bits ch t v c m)
 | 0 => ⟨Bpv bits, ht, by simp [cst, pre]⟩
 | m + 1 => by
  have ih := Bcj bits ch ht v c m
  rw [cst, pre]
  split
  ·exact Biq ih _ _
  ·exact ih
def smp (bits : Int) (ch : Nat) (t : List Int32) (v : List UInt32) : List Int32 := (List.range v.length).map fun i => Bh0 bits (cst bits ch t v (i % ch) i) (Ajf (v.getD i 0))
theorem Alc (bits : Int) (ch : Nat) (t : List Int32) (v : List UInt32) : (smp bits ch t v).length = v.length := by simp [smp]
theorem Beb (bits : Int) (ch : Nat) (t : List Int32) (v : List UInt32) {i : Nat} (h : i < v.length) : (smp bits ch t v).getD i 0 = Bh0 bits (cst bits ch t v (i % ch) i) (Ajf (v.getD i 0)) := by
 rw [Kl (by rw [Alc]; exact h)]; simp [smp]
abbrev CL := Int × Int32 × (Int × (List Int32) × (List Int32) × Unit) × Unit
def toC (bits : Int) (s : CS) : CL := (bits, s.1, (sB bits, s.2.1, s.2.2, ()), ())
def cts (bits : Int) (ch : Nat) (t : List Int32) (v : List UInt32) (i : Nat) : List CL := (List.range 6).map fun c => toC bits (cst bits ch t v c i)
theorem Bm4 {bits : Int} {ch : Nat} {t : List Int32} {v : List UInt32} {i c : Nat} (h : c < 6) : Aj (cts bits ch t v i) (c : Int) = some (toC bits (cst bits ch t v c i)) := by
 rw [Dl (by simp [cts]; exact h)]; simp [cts]
theorem Azh (bits : Int) (ch : Nat) (t : List Int32) (v : List UInt32) (c m : Nat) : cst bits ch t v c (m + 1) = if m % ch = c then Bdh bits (cst bits ch t v c m) (Ajf (v.getD m 0)) else cst bits ch t v c m := rfl
theorem Bm1 {bits : Int} {ch : Nat} {t : List Int32} {v : List UInt32} {i c : Nat} (h : c < 6) (hc : i % ch = c) : Oi (cts bits ch t v i) (c : Int) (toC bits (Bdh bits (cst bits ch t v c i) (Ajf (v.getD i 0)))) = some (cts bits ch t v (i + 1)) := by
 rw [Us _ (by simp [cts]; exact h)]
 congr 1
 apply List.ext_getElem (by simp [cts])
 intro k h1 h2
 rw [List.getElem_set]
 simp only [cts, List.getElem_map, List.getElem_range]
 by_cases hk : c = k
 ·subst hk; rw [if_pos rfl, Azh, if_pos hc]
 ·rw [if_neg hk, Azh, if_neg (by omega)]
section
variable {bits : Int} {ch : Nat} {t : List Int32} {v : List UInt32}
theorem Ba3 (hb : Fx bits) (ht : t.length = 16) (h1 : 1 ≤ ch) (h6 : ch ≤ 6) (hv : v.length ≤ 4000) : ∀ (j i q : Nat), i + j = v.length → j < q →
  Gh v (ch : Int) bits q (i : Int) (cts bits ch t v i) ((smp bits ch t v).take i) = Ip (ch : Int) bits (smp bits ch t v)
 | 0, i, q + 1, hi, _ => by
  rw [Gh, It, if_neg (by rw [Af, Ac]; simp; omega), List.take_of_length_le (by rw [Alc]; omega)]
 | j + 1, i, q + 1, hi, hq => by
  have hlen := Alc bits ch t v
  have hc : i % ch < 6 := Nat.lt_of_lt_of_le (Nat.mod_lt _ (by omega)) h6
  have hok := Bcj bits ch ht v (i % ch) i
  have hs := Bm1 (bits := bits) (ch := ch) (t := t) (v := v) (i := i) hc rfl
  have hx := Beb bits ch t v (i := i) (by omega)
  have hcb := Bgw hb hok (cst bits ch t v (i % ch) i).1 (Ajf (v.getD i 0))
  have ih := Ba3 hb ht h1 h6 hv j (i + 1) q (by omega) (by omega)
  rw [Aho (by omega), ← Kl (by omega), hx] at ih
  rw [Gh, It, if_pos (by rw [Af, Ac]; simp; omega), Atf (by omega), Aa, Cq (by rw [As]; simp; omega), Aa, Aty, Bm4 hc, Aa, Aa, Biv, Aa]
  refine Eq.trans (congrArg (fun o => Option.bind o _) hcb) ?_
  rw [Aa]
  simp only
  rw [Uz, Adb, if_neg (by rw [As]; simp), Aty]
  refine Eq.trans (congrArg (fun o => Option.bind o _) hs) ?_
  rw [Aa, Gp (by simp; omega), Aa, Ag (by omega) (by omega)]
  exact ih
theorem Bgx (hb : Fx bits) (ht : t.length = 16) (h1 : 1 ≤ ch) (h6 : ch ≤ 6) (hv : v.length ≤ 4000) : Qd (ch : Int) bits t v = Ip (ch : Int) bits (smp bits ch t v) := by
 have h := Ba3 hb ht h1 h6 hv v.length 0 Ba (by omega) (by have := Ay; omega)
 have e : Ba = (Ba - 7) + 1 + 1 + 1 + 1 + 1 + 1 + 1 := by have := Ay; omega
 have hs : Nf v (ch : Int) bits t 0 (List.replicate 6 ((0 : Int), (0 : Int32), ((0 : Int), (List.replicate 16 (0 : Int32)), (List.replicate 16 (0 : Int32)), ()), ())) = Uo v (ch : Int) bits (cts bits ch t v 0) := by
  rw [Nf, e]
  obtain rfl | rfl | rfl := hb <;> rfl
 rw [Qd, Wd, hs]
 exact h
theorem Avw (bk : Int → List Int32 → Option (List Int32)) (hb : Fx bits) (ht : t.length = 16) (h1 : 1 ≤ ch) (h6 : ch ≤ 6) (hv : v.length ≤ 4000) (z : List Int32) (c : Nat) (hc : c < ch) : ∀ (j i q : Nat), i % ch = c → v.length - i ≤ j → i ≤ 5000 → j < q →
  Fs bk v (ch : Int) bits t (c : Int) q (i : Int) (sel (fun k => decide (k % ch < c ∨ (k % ch = c ∧ k < i))) (smp bits ch t v) z) bits (cst bits ch t v c i).1 (sB bits) (cst bits ch t v c i).2.1 (cst bits ch t v c i).2.2 =
   bk ((c + 1 : Nat) : Int) (sel (fun k => decide (k % ch < c + 1)) (smp bits ch t v) z)
 | j, i, q + 1, hi, hj, hi5, hq => by
  have hlen := Alc bits ch t v
  rw [Fs, Ib]
  by_cases h : i < v.length
  ·have hok := Bcj bits ch ht v c i
   have hst := Bf3 hb hok (cst bits ch t v c i).1 (Ajf (v.getD i 0))
   have hx := Beb bits ch t v (i := i) h
   rw [hi] at hx
   have ih := Avw bk hb ht h1 h6 hv z c hc (j - 1) (i + ch) q (by rw [Nat.add_mod_right]; exact hi) (by omega) (by omega) (by omega)
   have hstep : cst bits ch t v c (i + ch) = Bdh bits (cst bits ch t v c i) (Ajf (v.getD i 0)) := Bj5 ch c i _ _ hi hc
   rw [hstep] at ih
   have hset := An3 (p := fun k => decide (k % ch < c ∨ (k % ch = c ∧ k < i))) (a := smp bits ch t v) (b := z) (k := i) (by omega)
   rw [hx] at hset
   have hcong : sel (fun j => decide (j % ch < c ∨ (j % ch = c ∧ j < i)) || decide (j = i)) (smp bits ch t v) z = sel (fun k => decide (k % ch < c ∨ (k % ch = c ∧ k < i + ch))) (smp bits ch t v) z := by
    apply Xc
    intro k _
    rw [Bool.eq_iff_iff]
    simp only [Bool.or_eq_true, decide_eq_true_eq]
    constructor
    ·rintro ((h1 | h1) | h1)
     ·exact .inl h1
     ·exact .inr ⟨h1.1, by omega⟩
     ·subst h1; exact .inr ⟨hi, by omega⟩
    ·rintro (h1 | ⟨h1, h2⟩)
     ·exact .inl (.inl h1)
     ·by_cases h3 : k < i
      ·exact .inl (.inr ⟨h1, h3⟩)
      ·refine .inr ?_
       have h4 : (i + (k - i)) % ch = i % ch := by rw [show i + (k - i) = k by omega, h1, hi]
       have h5 := Nat.sub_mod_eq_zero_of_mod_eq h4
       rw [Nat.add_sub_cancel_left, Nat.mod_eq_of_lt (by omega)] at h5
       omega
   rw [hcong] at hset
   rw [if_pos (by rw [Af, Ac]; simp; omega), Atf h, Aa, Bkt, Aa]
   refine Eq.trans (congrArg (fun o => Option.bind o _) hst) ?_
   rw [Aa]
   simp only
   rw [Nk, Ny, Afm (by omega), Aa]
   refine Eq.trans (congrArg (fun o => Option.bind o _) hset) ?_
   rw [Aa, Nr, Wy, Ag (by omega) (by omega)]
   exact ih
  ·rw [if_neg (by rw [Af, Ac]; simp; omega), Np, Wx, Ag (by omega) (by omega)]
   have hcong : sel (fun k => decide (k % ch < c ∨ (k % ch = c ∧ k < i))) (smp bits ch t v) z = sel (fun k => decide (k % ch < c + 1)) (smp bits ch t v) z := by
    apply Xc
    intro k hk
    rw [Bool.eq_iff_iff]
    simp only [decide_eq_true_eq]
    omega
   rw [hcong]; rfl
theorem Avd (hb : Fx bits) (ht : t.length = 16) (h1 : 1 ≤ ch) (h6 : ch ≤ 6) (hv : v.length ≤ 4000) (z : List Int32) : ∀ (j c q : Nat), c + j = ch → j < q →
  De v (ch : Int) bits t q (c : Int) (sel (fun k => decide (k % ch < c)) (smp bits ch t v) z) = Hz (ch : Int) bits (smp bits ch t v)
 | 0, c, q + 1, hc, _ => by
  rw [De, Hx, if_neg (by rw [Af]; simp; omega), Aoj (fun k hk => by have := Nat.mod_lt k (show 0 < ch by omega); simp; omega)]
 | j + 1, c, q + 1, hc, hq => by
  have ih := Avd hb ht h1 h6 hv z j (c + 1) q (by omega) (by omega)
  have hin := Avw (De v (ch : Int) bits t q) hb ht h1 h6 hv z c (by omega) v.length c Ba (Nat.mod_eq_of_lt (by omega)) (by omega) (by omega) (by have := Ay; omega)
  have h0 : cst bits ch t v c c = (0, t, List.replicate 16 0) := Bd1 ch c _ _ c (Nat.le_refl _) (by omega)
  rw [h0] at hin
  have hcong : sel (fun k => decide (k % ch < c ∨ (k % ch = c ∧ k < c))) (smp bits ch t v) z = sel (fun k => decide (k % ch < c)) (smp bits ch t v) z := by
   apply Xc
   intro k hk
   have := Nat.mod_le k ch
   rw [Bool.eq_iff_iff]
   simp only [decide_eq_true_eq]
   omega
  rw [hcong] at hin
  rw [De, Hx, if_pos (by rw [Af]; simp; omega), Bpu hb, Aa]
  simp only
  rw [Od]
  exact Eq.trans hin ih
theorem Bf2 (hb : Fx bits) (ht : t.length = 16) (h1 : 1 ≤ ch) (h6 : ch ≤ 6) (hv : v.length ≤ 4000) (hm : v.length % ch = 0) : Cl (ch : Int) bits t v = some (unm ch (smp bits ch t v)) := by
 have hlen := Alc bits ch t v
 have h := Avd hb ht h1 h6 hv (List.replicate v.length 0) ch 0 Ba (by omega) (by have := Ay; omega)
 rw [Aod (by rw [hlen]; simp) (fun k _ => by simp)] at h
 rw [Cl, Pu, Ac, Ar0 (by omega) (by omega), Aa, Cq (by rw [Cd]; simp), Aa, Nv]
 refine Eq.trans h ?_
 rw [Hz, Xb, Bg5 ch _ h1 h6 (by rw [hlen]; exact hm) (by omega), Aa]
end
def hB (bits : Int) : Int := if bits = 8 then 128 else if bits = 16 then 32768 else 8388608
theorem Bhd {bits : Int} (h : Fx bits) : Ab8 bits = some (Int32.ofInt (-(hB bits)), Int32.ofInt (hB bits - 1), 0) := by
 obtain rfl | rfl | rfl := h <;> decide
theorem Au9 {bits : Int} (h : Fx bits) : Lf bits = some (hB bits) := by
 obtain rfl | rfl | rfl := h <;> rfl
theorem Asf (bits : Int) : 0 < hB bits ∧ hB bits ≤ 8388608 := by
 unfold hB; split; · omega
 ·split <;> omega
theorem At1 {bits : Int} (h : Fx bits) (l : List Int32) (hl : l.length ≤ 4000) : ∀ (j i q : Nat), i + j = l.length → j < q →
  Nq (Int32.ofInt (-(hB bits))) (Int32.ofInt (hB bits - 1)) l q (i : Int) = Bk l (hB bits) q (i : Int)
 | 0, i, q + 1, hi, _ => by
  rw [Nq, Zg, Bk, Ds, if_neg (by rw [Af, Ac]; simp; omega), if_neg (by rw [Af, Ac]; simp; omega)]; rfl
 | j + 1, i, q + 1, hi, hq => by
  have hh := Asf bits
  have ih := At1 h l hl j (i + 1) q (by omega) (by omega)
  have e1 : (Int32.ofInt (-(hB bits))).toInt = -(hB bits) := by rw [Int32.toInt_ofInt, Int.bmod_eq_of_le (by show -(4294967296 / 2 : Int) ≤ _; omega) (by show _ < (4294967296 + 1) / 2; omega)]
  have e2 : (Int32.ofInt (hB bits - 1)).toInt = hB bits - 1 := by rw [Int32.toInt_ofInt, Int.bmod_eq_of_le (by show -(4294967296 / 2 : Int) ≤ _; omega) (by show _ < (4294967296 + 1) / 2; omega)]
  rw [Nq, Zg, Bk, Ds, if_pos (by rw [Af, Ac]; simp; omega), if_pos (by rw [Af, Ac]; simp; omega), g32 (by omega), Aa, Aa, Aa, Ee, Bcz, Bu (by omega) (by omega), Ag (by omega) (by omega), Axa, Bcp, e1, e2, Af, Dm]
  generalize (l.getD i 0).toInt = X
  by_cases h1 : X < -(hB bits)
  ·rw [if_pos (by simp; omega), if_pos (by simp; omega)]
  ·rw [if_neg (c := decide (X < 0 - hB bits) = true) (by simp; omega)]
   by_cases h2 : hB bits ≤ X
   ·rw [if_pos (by simp; omega), if_pos (by simp; omega)]
   ·rw [if_neg (by simp; omega), if_neg (by simp; omega)]; exact ih
theorem Atk {bits : Int} (h : Fx bits) (l : List Int32) (hl : l.length ≤ 4000) : Acg bits l = Bf bits l := by
 have hh := Asf bits
 rw [Acg, Aej, Bhd h, Aa, Bf, Gv, Au9 h, Aa]
 simp only
 rw [if_neg (by rw [As]; simp), if_neg (by rw [Bc, Ac]; simp; omega), if_neg (by rw [Cd]; simp; omega), if_neg (by rw [Bc, Ac]; simp; omega)]
 exact At1 h l hl l.length 0 Ba (by omega) (by have := Ay; omega)
theorem Bb4 {bits : Int} (h : Fx bits) (l : List Int32) (hl : l.length ≤ 4000) : ∃ e, Bf bits l = some e := by
 have hh := Asf bits
 have key : ∀ (j i q : Nat), i + j = l.length → j < q → ∃ e, Bk l (hB bits) q (i : Int) = some e := by
  intro j
  induction j with
  | zero =>
   intro i q hi hq
   obtain ⟨q, rfl⟩ : ∃ k, q = k + 1 := ⟨q - 1, by omega⟩
   rw [Bk, Ds, if_neg (by rw [Af, Ac]; simp; omega)]
   exact ⟨_, rfl⟩
  | succ j ih =>
   intro i q hi hq
   obtain ⟨q, rfl⟩ : ∃ k, q = k + 1 := ⟨q - 1, by omega⟩
   rw [Bk, Ds, if_pos (by rw [Af, Ac]; simp; omega), g32 (by omega), Aa, Aa, Ag (by omega) (by omega)]
   split
   ·exact ⟨_, rfl⟩
   ·split
    ·exact ⟨_, rfl⟩
    ·exact ih (i + 1) q (by omega) (by omega)
 obtain ⟨e, he⟩ := key l.length 0 Ba (by omega) (by have := Ay; omega)
 rw [Bf, Gv, Au9 h, Aa, if_neg (by rw [Cd]; simp; omega), if_neg (by rw [Bc, Ac]; simp; omega)]
 exact ⟨e, he⟩
theorem Aw1 {bits : Int} {ch : Nat} {t : List Int32} {v : List UInt32} (hb : Fx bits) (ht : t.length = 16) (h1 : 1 ≤ ch) (h6 : ch ≤ 6) (hv : v.length ≤ 4000) (hm : v.length % ch = 0) :
  ∃ l e, Cl (ch : Int) bits t v = some l ∧ Dd (ch : Int) bits l = some (if e ≠ 0 then ([], e) else (l, 0)) ∧ Qd (ch : Int) bits t v = some (if e ≠ 0 then ([], e) else (l, 0)) ∧ Bf bits l = some e ∧ l.length = v.length := by
 have hlen := Alc bits ch t v
 have hul := Alg ch (smp bits ch t v)
 obtain ⟨e, he⟩ := Bb4 hb (unm ch (smp bits ch t v)) (by omega)
 refine ⟨unm ch (smp bits ch t v), e, Bf2 hb ht h1 h6 hv hm, ?_, ?_, he, by omega⟩
 ·rw [Dd, he, Aa]
  by_cases h : e = 0
  ·rw [if_neg (by rw [As]; simpa using h), if_neg (by simpa using h)]
  ·rw [if_pos (by rw [As]; simpa using h), if_pos h]
 ·rw [Bgx hb ht h1 h6 hv, Ip, Ac9, Bmf ch _ h1 h6 (by rw [hlen]; exact hm) (by omega), Aa]
  simp only
  rw [if_neg (by rw [As]; simp), Atk hb _ (by omega), he, Aa]
  by_cases h : e = 0
  ·rw [if_neg (by rw [As]; simpa using h), if_neg (by simpa using h)]
  ·rw [if_pos (by rw [As]; simpa using h), if_pos h]
end Go.Pl
set_option linter.unusedVariables false
set_option linter.unusedSimpArgs false
namespace Go.Pl
open Go Go.Lv
def Ak6 (s : Nat) : Nat := (s / 2) ^^^ (if s % 2 = 1 then 3988292384 else 0)
theorem Arn {s : Nat} (h : s < 4294967296) : Ak6 s < 4294967296 := by
 unfold Ak6
 exact Nat.xor_lt_two_pow (n := 32) (by simp; omega) (by split <;> decide)
theorem Bak (x y : Nat) : (x ^^^ y) / 2 = (x / 2) ^^^ (y / 2) := by
 have := Nat.shiftRight_xor_distrib (a := x) (b := y) (i := 1)
 simpa [Nat.shiftRight_eq_div_pow] using this
theorem Bg4 (x y : Nat) : Ak6 (x ^^^ y) = Ak6 x ^^^ Ak6 y := by
 have h : (x ^^^ y) % 2 = (x % 2 + y % 2) % 2 := by
  have := Nat.xor_mod_two_eq_one (a := x) (b := y)
  have h1 : (x ^^^ y) % 2 < 2 := Nat.mod_lt _ (by omega)
  omega
 simp only [Ak6, Bak, h]
 have hx : x % 2 = 0 ∨ x % 2 = 1 := by omega
 have hy : y % 2 = 0 ∨ y % 2 = 1 := by omega
 rcases hx with hx | hx <;> rcases hy with hy | hy <;> simp only [hx, hy] <;> simp
 ·rw [Nat.xor_assoc]
 ·rw [Nat.xor_assoc, Nat.xor_comm (y / 2), Nat.xor_assoc, Nat.xor_comm 3988292384 (y/2)]
 ·rw [Nat.xor_assoc, Nat.xor_comm 3988292384, Nat.xor_assoc, Nat.xor_self]; simp
def Uk : Nat → Nat → Nat
 | 0, s => s
 | k + 1, s => Uk k (Ak6 s)
theorem Awc : ∀ (k x y : Nat), Uk k (x ^^^ y) = Uk k x ^^^ Uk k y
 | 0, _, _ => rfl
 | k + 1, x, y => by rw [Uk, Bg4, Awc k]; rfl
theorem Av8 : ∀ (k h : Nat), Uk k (2 ^ k * h) = h
 | 0, h => by simp [Uk]
 | k + 1, h => by
  have : Ak6 (2 ^ (k + 1) * h) = 2 ^ k * h := by
   rw [Nat.pow_succ, Nat.mul_comm (2 ^ k) 2, Nat.mul_assoc, Ak6, if_neg (by omega), Nat.mul_div_cancel_left _ (by omega)]; simp
  rw [Uk, this, Av8 k]
theorem At9 : ∀ (k : Nat) {s : Nat}, s < 4294967296 → Uk k s < 4294967296
 | 0, _, h => h
 | k + 1, _, h => At9 k (Arn h)
def Apy (s c : Nat) : Nat := Uk 8 (s ^^^ c)
theorem Auh {s c : Nat} (h : s < 4294967296) (hc : c < 256) : Apy s c < 4294967296 := At9 8 (Nat.xor_lt_two_pow (n := 32) (by simpa using h) (by simp; omega))
theorem Baw {s c : Nat} (hc : c < 256) : Apy s c = (s / 256) ^^^ Uk 8 ((s % 256) ^^^ c) := by
 have h : s = (2 ^ 8 * (s / 256)) ^^^ (s % 256) := by
  have h1 : s % 256 < 2 ^ 8 := by simpa using Nat.mod_lt s (by omega : 256 > 0)
  have := Nat.two_pow_add_eq_or_of_lt h1 (s / 256)
  have h2 : 2 ^ 8 * (s / 256) ||| s % 256 = (2 ^ 8 * (s / 256)) ^^^ (s % 256) := by
   apply Nat.eq_of_testBit_eq; intro i
   rw [Nat.testBit_or, Nat.testBit_xor]
   by_cases hi : i < 8
   ·have : (2 ^ 8 * (s / 256)).testBit i = false := by rw [Nat.testBit_two_pow_mul]; simp; omega
    rw [this]; simp
   ·have : (s % 256).testBit i = false := Nat.testBit_lt_two_pow (Nat.lt_of_lt_of_le h1 (Nat.pow_le_pow_right (by omega) (by omega)))
    rw [this]; simp
  omega
 rw [Apy]
 conv => lhs; rw [h]
 rw [Nat.xor_assoc, Awc, Av8]
def Bfe (s : Nat) (l : List UInt8) : Nat := l.foldl (fun s c => Apy s c.toNat) s
def Gd (b : List UInt8) : UInt32 := 4294967295 - UInt32.ofNat (Bfe 4294967295 b)
theorem Bk8 (s : UInt32) (c : Nat) (hc : c < 256) : Rv s (Ad (Xo (UInt8.ofNat c) (2 : UInt8)) : Int) = some (UInt32.ofNat (s.toNat / 2 ^^^ (if (s.toNat ^^^ c) % 2 = 1 then 3988292384 else 0))) := by
 have h1 : (Ad (Xo (UInt8.ofNat c) (2 : UInt8)) : Int) = ((c % 2 : Nat) : Int) := by
  rw [Ady, Bk1, UInt8.toNat_mod, UInt8.toNat_ofNat']
  show ((c % 256 % 2 : Nat) : Int) = _
  omega
 have h2 : geq (Xo s (2 : UInt32)) (1 : UInt32) = decide (s.toNat % 2 = 1) := by
  rw [Awu, Bba, Bool.eq_iff_iff]
  simp only [beq_iff_eq, decide_eq_true_eq]
  rw [← UInt32.toNat_inj, UInt32.toNat_mod]; rfl
 have h3 : Dc s (2 : UInt32) = UInt32.ofNat (s.toNat / 2) := by
  apply UInt32.toNat_inj.1
  rw [Aym, UInt32.toNat_div, UInt32.toNat_ofNat']
  show s.toNat / 2 = _
  have := s.toNat_lt
  omega
 have h4 : Vq (Dc s (2 : UInt32)) (3988292384 : UInt32) = UInt32.ofNat (s.toNat / 2 ^^^ 3988292384) := by
  apply UInt32.toNat_inj.1
  rw [h3, Anw, UInt32.toNat_xor, UInt32.toNat_ofNat', UInt32.toNat_ofNat']
  have := s.toNat_lt
  rw [Nat.mod_eq_of_lt (a := s.toNat / 2) (by omega), Nat.mod_eq_of_lt]
  ·rfl
  ·exact Nat.xor_lt_two_pow (n := 32) (by omega) (by decide)
 have hx : (s.toNat ^^^ c) % 2 = (s.toNat % 2 + c % 2) % 2 := by
  have := Nat.xor_mod_two_eq_one (a := s.toNat) (b := c)
  have h1 : (s.toNat ^^^ c) % 2 < 2 := Nat.mod_lt _ (by omega)
  omega
 have hs : s.toNat % 2 = 0 ∨ s.toNat % 2 = 1 := by omega
 have hc2 : c % 2 = 0 ∨ c % 2 = 1 := by omega
 rw [Rv, Ta, h1, h2, hx]
 rcases hs with hs | hs <;> rcases hc2 with hc2 | hc2 <;> simp [hs, hc2, Cd, Se, Abj, Anw, h3]
theorem Aql : ∀ (j i q : Nat) (s : UInt32) (c : Nat), i + j = 8 → j < q → c < 2 ^ j → Ft q s (UInt8.ofNat c) (i : Int) = some (UInt32.ofNat (Uk j (s.toNat ^^^ c)))
 | 0, i, q + 1, s, c, hi, _, hc => by
  obtain rfl : i = 8 := by omega
  obtain rfl : c = 0 := by simpa using hc
  rw [Ft, Lm, if_neg (by rw [Af]; simp), Tm, Abp, Uk]
  simp
 | j + 1, i, q + 1, s, c, hi, hq, hc => by
  have hc8 : c < 256 := Nat.lt_of_lt_of_le hc (show 2 ^ (j + 1) ≤ 2 ^ 8 from Nat.pow_le_pow_right (by omega) (by omega))
  rw [Ft, Lm, if_pos (by rw [Af]; simp; omega), Bk8 s c hc8, Aa, Ag (by omega) (by omega)]
  have e : Dc (UInt8.ofNat c) (2 : UInt8) = UInt8.ofNat (c / 2) := by
   apply UInt8.toNat_inj.1
   rw [Bmh, UInt8.toNat_div, UInt8.toNat_ofNat', UInt8.toNat_ofNat']
   show c % 256 / 2 = _
   omega
  rw [e]
  have h := Aql j (i + 1) q (UInt32.ofNat (s.toNat / 2 ^^^ (if (s.toNat ^^^ c) % 2 = 1 then 3988292384 else 0))) (c / 2) (by omega) (by omega) (by rw [Nat.pow_succ] at hc; omega)
  rw [show ((i : Int) + 1) = ((i + 1 : Nat) : Int) by omega, h, UInt32.toNat_ofNat', Uk]
  congr 3
  have := s.toNat_lt
  rw [Nat.mod_eq_of_lt, Ak6, Bak, Nat.xor_assoc, Nat.xor_assoc, Nat.xor_comm (c / 2)]
  exact Nat.xor_lt_two_pow (n := 32) (by omega) (by split <;> decide)
theorem Bmo (s : UInt32) (c : UInt8) : Yc s c = some (UInt32.ofNat (Apy s.toNat c.toNat)) := by
 have h := Aql 8 0 Ba s c.toNat (by omega) (by have := Ay; omega) (by simpa using c.toNat_lt)
 rw [UInt8.ofNat_toNat] at h
 exact h
theorem Amf (b : List UInt8) (hb : b.length < 4611686018427387904) : ∀ (j i q : Nat) (s : UInt32), i + j = b.length → j < q → El b q s (i : Int) = some (UInt32.ofNat (Bfe s.toNat (b.drop i)))
 | 0, i, q + 1, s, hi, _ => by
  rw [El, Ix, if_neg (by rw [Af, Ac]; simp; omega), show i = b.length by omega, List.drop_length]
  simp [Ok, Yr, Bfe]
 | j + 1, i, q + 1, s, hi, hq => by
  have hlt : i < b.length := by omega
  rw [El, Ix, if_pos (by rw [Af, Ac]; simp; omega), Dl hlt, Aa, Bmo, Aa, Ag (by omega) (by omega)]
  have h := Amf b hb j (i + 1) q (UInt32.ofNat (Apy s.toNat b[i].toNat)) (by omega) (by omega)
  rw [show ((i : Int) + 1) = ((i + 1 : Nat) : Int) by omega, h, drop_cons hlt, UInt32.toNat_ofNat', Nat.mod_eq_of_lt (Auh s.toNat_lt b[i].toNat_lt)]
  rfl
theorem Bke (b : List UInt8) (hb : b.length < 4611686018427387904) : Lc b = some (Gd b) := by
 have h := Amf b hb b.length 0 Ba 4294967295 (by omega) (by have := Ay; omega)
 rw [Lc, Ux, Py, Qc, show ((0 : Int)) = ((0 : Nat) : Int) from rfl, h, Aa, Bbc]; rfl
theorem Bme (c : UInt32) : Vq (Cj c (GI.toZ (1 : UInt64)).toNat) (Bp (3988292384 : UInt32) (He c (1 : UInt32))) = UInt32.ofNat (Ak6 c.toNat) := by
 apply UInt32.toNat_inj.1
 have e : (GI.toZ (1 : UInt64)).toNat = 1 := rfl
 have h1 : (Cj c 1).toNat = c.toNat / 2 := by rw [Ag8]
 have h2 : (Bp (3988292384 : UInt32) (He c (1 : UInt32))).toNat = if c.toNat % 2 = 1 then 3988292384 else 0 := by
  rw [Bha, Baz, UInt32.toNat_mul, UInt32.toNat_and]
  show 3988292384 * (c.toNat &&& 1) % 4294967296 = _
  rw [Nat.and_one_is_mod]
  have : c.toNat % 2 = 0 ∨ c.toNat % 2 = 1 := by omega
  rcases this with h | h <;> simp [h]
 rw [e, Anw, UInt32.toNat_xor, h1, h2, UInt32.toNat_ofNat', Nat.mod_eq_of_lt (Arn c.toNat_lt)]; rfl
theorem Ayo (bk16 : Int → List UInt32 → Option (UInt32 × Int)) (s : UInt32) (b : List UInt8) (x : Int) (t : List UInt32) : ∀ (j i q : Nat) (c : UInt32), i + j = 8 → j < q →
  Oc bk16 s b x t q c (i : Int) = Yp bk16 s b x (UInt32.ofNat (Uk j c.toNat)) t
 | 0, i, q + 1, c, hi, _ => by
  obtain rfl : i = 8 := by omega
  rw [Oc, Xq, if_neg (by rw [Af]; simp), Uk, UInt32.ofNat_toNat]
 | j + 1, i, q + 1, c, hi, hq => by
  rw [Oc, Xq, if_pos (by rw [Af]; simp; omega), Bme, Ag (by omega) (by omega), show ((i : Int) + 1) = ((i + 1 : Nat) : Int) by omega, Ayo bk16 s b x t j (i + 1) q _ (by omega) (by omega), UInt32.toNat_ofNat', Nat.mod_eq_of_lt (Arn c.toNat_lt)]; rfl
def tbl (n : Nat) : List UInt32 := (List.range n).map fun i => UInt32.ofNat (Uk 8 i)
theorem Ber (s : UInt32) (b : List UInt8) : ∀ (j i q : Nat), i + j = 256 → j < q → Jp s b q (i : Int) (tbl i ++ List.replicate j 0) = Yt s b (tbl 256)
 | 0, i, q + 1, hi, _ => by
  obtain rfl : i = 256 := by omega
  rw [Jp, Yv, if_neg (by rw [Af]; simp)]; simp
 | j + 1, i, q + 1, hi, hq => by
  have hlen : (tbl i ++ List.replicate (j + 1) 0).length = i + (j + 1) := by simp [tbl]
  rw [Jp, Yv, if_pos (by rw [Af]; simp; omega), Aeb]
  have h := Ayo (Jp s b q) s b (i : Int) (tbl i ++ List.replicate (j + 1) 0) 8 0 Ba (Ad (i : Int)) (by omega) (by have := Ay; omega)
  rw [show ((0 : Int)) = ((0 : Nat) : Int) from rfl, h, Yp, Ae7, Dl (by rw [hlen]; omega), Aa, Us _ (by rw [hlen]; omega), Aa, Ad4, Ak2, Ag (by omega) (by omega)]
  have e : (Ad (i : Int) : UInt32).toNat = i := by rw [Awl, UInt32.toNat_ofNat', Nat.mod_eq_of_lt (by omega)]
  rw [e, List.replicate_succ, Alz (by simp [tbl])]
  have h2 := Ber s b j (i + 1) q (by omega) (by omega)
  have h3 : tbl (i + 1) = tbl i ++ [UInt32.ofNat (Uk 8 i)] := by simp [tbl, List.range_succ]
  rw [h3] at h2
  rw [show ((i : Int) + 1) = ((i + 1 : Nat) : Int) by omega, ← h2]
  simp
theorem Blg {i : Nat} (h : i < 256) : Aj (tbl 256) (i : Int) = some (UInt32.ofNat (Uk 8 i)) := by
 rw [Dl (by simpa [tbl] using h)]; simp [tbl]
theorem Bis (s : UInt32) (c : UInt8) : Aj (tbl 256) (GI.toZ (Vq (Ad s : UInt8) c)) = some (UInt32.ofNat (Uk 8 ((s.toNat % 256) ^^^ c.toNat))) := by
 have e : GI.toZ (Vq (Ad s : UInt8) c) = (((s.toNat % 256) ^^^ c.toNat : Nat) : Int) := by
  rw [Wn, Bd0, UInt8.toNat_xor, Anh, UInt8.toNat_ofNat']
 rw [e, Blg]
 exact Nat.xor_lt_two_pow (n := 8) (by simp; omega) (by simpa using c.toNat_lt)
theorem Bgu (s : UInt32) (c : UInt8) : Vq (Cj s (GI.toZ (8 : UInt64)).toNat) (UInt32.ofNat (Uk 8 ((s.toNat % 256) ^^^ c.toNat))) = UInt32.ofNat (Apy s.toNat c.toNat) := by
 apply UInt32.toNat_inj.1
 have hlt : Uk 8 ((s.toNat % 256) ^^^ c.toNat) < 4294967296 := At9 8 (Nat.xor_lt_two_pow (n := 32) (by simp; omega) (by have := c.toNat_lt; simp; omega))
 have e : (GI.toZ (8 : UInt64)).toNat = 8 := rfl
 rw [e, Anw, UInt32.toNat_xor, Ag8, UInt32.toNat_ofNat', UInt32.toNat_ofNat', Nat.mod_eq_of_lt hlt, Nat.mod_eq_of_lt (Auh s.toNat_lt c.toNat_lt), Baw c.toNat_lt]
theorem Bah (b : List UInt8) (hb : b.length < 4611686018427387904) : ∀ (j i q : Nat) (s : UInt32), i + j = b.length → j < q → Ng b (tbl 256) q s (i : Int) = some (UInt32.ofNat (Bfe s.toNat (b.drop i)), 0)
 | 0, i, q + 1, s, hi, _ => by
  rw [Ng, Xv, if_neg (by rw [Af, Ac]; simp; omega), show i = b.length by omega, List.drop_length]
  simp [Afb, Aj9, Bfe]
 | j + 1, i, q + 1, s, hi, hq => by
  have hlt : i < b.length := by omega
  rw [Ng, Xv, if_pos (by rw [Af, Ac]; simp; omega), Dl hlt, Aa, Bis, Aa, Aa, Bgu, Ag (by omega) (by omega)]
  have h := Bah b hb j (i + 1) q (UInt32.ofNat (Apy s.toNat b[i].toNat)) (by omega) (by omega)
  rw [show ((i : Int) + 1) = ((i + 1 : Nat) : Int) by omega, h, drop_cons hlt, UInt32.toNat_ofNat', Nat.mod_eq_of_lt (Auh s.toNat_lt b[i].toNat_lt)]
  rfl
theorem Blh (s : UInt32) (b : List UInt8) (hb : b.length ≤ 100000) : Aiu s b = some (UInt32.ofNat (Bfe s.toNat b), 0) := by
 have h := Ber s b 256 0 Ba (by omega) (by have := Ay; omega)
 have h2 := Bah b (by omega) b.length 0 Ba s (by omega) (by have := Ay; omega)
 rw [Aiu, Agv, if_neg (by rw [Bc, Ac]; simp; omega), Aer]
 refine Eq.trans h ?_
 rw [Yt, Afe, Aeg, Aeq, Aew]
 exact h2
theorem Bje (a : UInt32) : Ass a = 4294967295 - a := by
 have h := a.toNat_lt
 have e : Ass a = UInt32.ofNat (BitVec.ofInt 32 4294967295 ^^^ BitVec.ofInt 32 (a.toNat : Int)).toNat := Dr _
 apply UInt32.toNat_inj.1
 rw [e, UInt32.toNat_ofNat', UInt32.toNat_sub_of_le _ _ (by rw [UInt32.le_iff_toNat_le]; show a.toNat ≤ 4294967295; omega)]
 have h1 : BitVec.ofInt 32 (a.toNat : Int) = a.toBitVec := Axs a
 have h2 : (BitVec.ofInt 32 4294967295 : BitVec 32) = BitVec.allOnes 32 := by decide
 rw [h1, h2, BitVec.allOnes_xor, BitVec.toNat_not]
 show (4294967296 - 1 - a.toNat) % 4294967296 = 4294967295 - a.toNat
 omega
theorem Bco (b : List UInt8) (hb : b.length ≤ 100000) : Adx b = some (Gd b, 0) := by
 rw [Adx, Blh _ _ hb, Aa]
 simp only [As, Bje]
 rfl
end Go.Pl
set_option linter.unusedVariables false
set_option linter.unusedSimpArgs false
namespace Go.Pl
open Go Go.Lv
theorem Bed : ∀ {l m : List UInt8}, l.length = m.length → Eb l = Eb m → l = m
 | [], [], _, _ => rfl
 | x :: l, y :: m, h, e => by
  simp only [Eb] at e
  have hx := x.toNat_lt
  have hy := y.toNat_lt
  have h1 : x = y := UInt8.toNat_inj.1 (by omega)
  rw [h1, Bed (l := l) (m := m) (by simpa using h) (by omega)]
theorem Awz : ∀ (w n : Nat), Eb (leB n w) = n % 256 ^ w
 | 0, n => by simp [leB, Eb, Nat.mod_one]
 | w + 1, n => by
  rw [leB, Eb, Awz w (n / 256), UInt8.toNat_ofNat', show (256 : Nat) ^ (w + 1) = 256 * 256 ^ w by rw [Nat.pow_succ, Nat.mul_comm], Nat.mod_mul]
def Wq (b : List UInt8) : Int :=
 if b.length < 5 then 24 else if 41254 < b.length then 4 else if (Gd (b.take (b.length - 4))).toNat ≠ Eb (b.drop (b.length - 4)) then 22 else 0
theorem Ayj (b : List UInt8) : Yf b = some (if Wq b ≠ 0 then ([], Wq b) else (b.take (b.length - 4), 0)) := by
 rw [Yf]
 by_cases h1 : b.length < 5
 ·have hS : Wq b = 24 := by rw [Wq, if_pos h1]
  rw [if_pos (by rw [Af, Ac]; simp; omega), hS]; rfl
 rw [if_neg (by rw [Af, Ac]; simp; omega)]
 by_cases h2 : 41254 < b.length
 ·have hS : Wq b = 4 := by rw [Wq, if_neg h1, if_pos h2]
  rw [if_pos (by rw [Bc, Ac]; simp; omega), hS]; rfl
 have e4 : Am (Ac b) 4 = ((b.length - 4 : Nat) : Int) := by rw [Ac, Bt (by omega) (by omega)]; omega
 have hd : (b.drop (b.length - 4)).length = 4 := by simp; omega
 rw [if_neg (by rw [Bc, Ac]; simp; omega), e4, Ls (by omega) (by omega), Aa, show ((b.length - 4 : Nat) : Int).toNat = b.length - 4 from rfl, Bco _ (by simp; omega), Aa]
 simp only
 rw [if_neg (by rw [As]; simp), Aa1 (by omega) (by omega), Aa, show ((b.length - 4 : Nat) : Int).toNat = b.length - 4 from rfl, Az5 _ (by omega) (by omega), Aa]
 have hne : Db (leU (b.drop (b.length - 4))) (Ad (Gd (b.take (b.length - 4))) : UInt64) = decide ((Gd (b.take (b.length - 4))).toNat ≠ Eb (b.drop (b.length - 4))) := by
  have hlt := (Gd (b.take (b.length - 4))).toNat_lt
  rw [Adk, Bool.eq_iff_iff]
  simp only [bne_iff_ne, ne_eq, ← UInt64.toNat_inj, decide_eq_true_eq]
  rw [Af1 (by omega), Gl, UInt64.toNat_ofNat', Nat.mod_eq_of_lt (by omega)]
  exact ⟨fun h e => h e.symm, fun h e => h e.symm⟩
 simp only
 rw [hne, Aa]
 by_cases h3 : (Gd (b.take (b.length - 4))).toNat ≠ Eb (b.drop (b.length - 4))
 ·have hS : Wq b = 22 := by rw [Wq, if_neg h1, if_neg h2, if_pos h3]
  rw [if_pos (by simp [h3]), hS]; rfl
 ·have hS : Wq b = 0 := by rw [Wq, if_neg h1, if_neg h2, if_neg h3]
  rw [if_neg (by rw [decide_eq_false h3]; decide), hS]; rfl
theorem Bfk (b : List UInt8) (hb : b.length ≤ 1000000) : Nc b = some (b ++ leB (Gd b).toNat 4) := by
 have h : ∀ k : Nat, (Ad (Cj (Gd b) k) : UInt8) = UInt8.ofNat ((Gd b).toNat / 2 ^ k) := by
  intro k; rw [Anh, Ag8]
 have h0 : (Ad (Gd b) : UInt8) = UInt8.ofNat (Gd b).toNat := Anh _
 have h1 := h 8
 have h2 := h 16
 have h3 := h 24
 rw [Nc, Bke b (by omega), Aa, Gp (by simp; omega), Aa, Gp (by simp; omega), Aa, h0, show (GI.toZ (8 : UInt64)).toNat = 8 from rfl, show (GI.toZ (16 : UInt64)).toNat = 16 from rfl, show (GI.toZ (24 : UInt64)).toNat = 24 from rfl, h1, h2, h3]
 simp only [leB, Nat.div_div_eq_div_mul, List.nil_append]
theorem Bct (b : List UInt8) : Iq b = some (Wq b) := by
 rw [Iq]
 by_cases h1 : b.length < 5
 ·rw [if_pos (by rw [Af, Ac]; simp; omega), Wq, if_pos h1]
 rw [if_neg (by rw [Af, Ac]; simp; omega)]
 by_cases h2 : 41254 < b.length
 ·rw [if_pos (by rw [Bc, Ac]; simp; omega), Wq, if_neg h1, if_pos h2]
 have e4 : Am (Ac b) 4 = ((b.length - 4 : Nat) : Int) := by rw [Ac, Bt (by omega) (by omega)]; omega
 have hd : (b.drop (b.length - 4)).length = 4 := by simp; omega
 rw [if_neg (by rw [Bc, Ac]; simp; omega), e4, Ls (by omega) (by omega), Aa, show ((b.length - 4 : Nat) : Int).toNat = b.length - 4 from rfl, Bfk _ (by simp; omega), Aa]
 have hlt := (Gd (b.take (b.length - 4))).toNat_lt
 have hiff : (b.take (b.length - 4) ++ leB (Gd (b.take (b.length - 4))).toNat 4 != b) = decide ((Gd (b.take (b.length - 4))).toNat ≠ Eb (b.drop (b.length - 4))) := by
  rw [Bool.eq_iff_iff]
  simp only [bne_iff_ne, ne_eq, decide_eq_true_eq]
  constructor
  ·intro h e
   apply h
   have : leB (Gd (b.take (b.length - 4))).toNat 4 = b.drop (b.length - 4) := Bed (by rw [Mx, hd]) (by rw [Awz, Nat.mod_eq_of_lt (by omega), e])
   rw [this, List.take_append_drop]
  ·intro h e
   apply h
   have hx : leB (Gd (b.take (b.length - 4))).toNat 4 = b.drop (b.length - 4) := by
    have e2 : b.take (b.length - 4) ++ leB (Gd (b.take (b.length - 4))).toNat 4 = b.take (b.length - 4) ++ b.drop (b.length - 4) := by rw [e, List.take_append_drop]
    exact List.append_cancel_left e2
   rw [← hx, Awz, Nat.mod_eq_of_lt (by omega)]
 rw [hiff]
 by_cases h3 : (Gd (b.take (b.length - 4))).toNat ≠ Eb (b.drop (b.length - 4))
 ·rw [if_pos (by simp [h3]), Wq, if_neg h1, if_neg h2, if_pos h3]
 ·rw [if_neg (by rw [decide_eq_false h3]; decide), Wq, if_neg h1, if_neg h2, if_neg h3]
theorem Biu {b : List UInt8} (h : Wq b = 0) : 5 ≤ b.length ∧ b.length ≤ 41254 := by
 unfold Wq at h
 split at h
 ·simp at h
 ·split at h
  ·simp at h
  ·omega
theorem Bli {c : Nat} (h1 : 1 ≤ c) (h6 : c ≤ 6) : Dc (4000 : Int) (c : Int) = ((4000 / c : Nat) : Int) := by
 have : c = 1 ∨ c = 2 ∨ c = 3 ∨ c = 4 ∨ c = 5 ∨ c = 6 := by omega
 rcases this with rfl | rfl | rfl | rfl | rfl | rfl <;> rfl
theorem Bmg (p : List UInt8) (h : p.length ≤ 41250) : okB p (8 * p.length) := ⟨by omega, by omega, fun k h1 h2 => by omega⟩
theorem Az2 {bits : Int} {ch n : Nat} {t : List Int32} (b : List UInt8) (hb : Fx bits) (ht : t.length = 16) (h1 : 1 ≤ ch) (h6 : ch ≤ 6) (n1 : 1 ≤ n) (n2 : n ≤ 4000 / ch) :
  ∃ l e, Zj (ch : Int) bits t (n : Int) b = some (l, e) ∧ Io (ch : Int) bits t (n : Int) b = some (l, e) ∧ (e = 0 → Bf bits l = some 0 ∧ l.length ≤ 4000) := by
 have hn : n * ch ≤ 4000 := by
  have := Nat.mul_le_mul_right ch n2
  have h2 := Nat.div_mul_le_self 4000 ch
  omega
 have hq4 := Bli h1 h6
 generalize 4000 / ch = mm at *
 have hck : Abi (ch : Int) bits = some 0 := by
  have hr : ∃ x y, Ab8 bits = some (x, y, 0) := ⟨_, _, Bhd hb⟩
  obtain ⟨x, y, hr⟩ := hr
  rw [Abi, hr, Aa]
  simp only
  rw [if_neg (by simp [As, Af, Bc]; omega)]
 have hh := Asf bits
 have hasked : Pq (ch : Int) bits (n : Int) = some 0 := by
  rw [Pq, Wh, if_neg (by simp [Af, Bc]; omega), Au9 hb, Aa, if_neg (by rw [Cd]; simp; omega), Aa, if_neg (by simp [As, Af]; omega), Cq (by rw [As]; simp; omega), Aa, hq4, if_neg (by rw [Bc]; simp; omega)]
 rw [Zj, Io, Om, hck, hasked, Aa, Aa, if_neg (by rw [As]; simp), if_neg (by rw [Af]; simp; omega), Cq (by rw [As]; simp; omega), Aa, hq4, if_neg (by rw [Bc]; simp; omega), if_neg (by rw [As]; simp), Ayj, Bct]
 by_cases hs : Wq b ≠ 0
 ·rw [if_pos hs]
  simp only [Aa]
  rw [if_pos (by rw [As]; simpa using hs), if_pos (by rw [As]; simpa using hs)]
  exact ⟨[], Wq b, rfl, rfl, fun e => absurd e hs⟩
 have hs0 : Wq b = 0 := by simpa using hs
 have hlen := Biu hs0
 have e4 : Am (Ac b) 4 = ((b.length - 4 : Nat) : Int) := by rw [Ac, Bt (by omega) (by omega)]; omega
 rw [if_neg hs, hs0]
 simp only [Aa]
 rw [if_neg (by rw [As]; simp), if_neg (by rw [As]; simp), e4, Ls (by omega) (by omega), Aa, show ((b.length - 4 : Nat) : Int).toNat = b.length - 4 from rfl]
 have hpl : (b.take (b.length - 4)).length = b.length - 4 := by simp
 generalize b.take (b.length - 4) = p at *
 have e8 : Bp (8 : Int) (Ac p) = ((8 * p.length : Nat) : Int) := by rw [Ac, Ih (by omega) (by omega)]; omega
 have hp := Bmg p (by omega)
 have hv := values_eq hp h1 h6 hn
 have hr := Bml (N := 8 * p.length) (p := p) rfl (by omega) h1 h6 hn
 have hat := Awy (ch := ch) (p := p) (N := 8 * p.length) (n * ch) 0 [] (by omega)
 rw [Axr, if_neg (by rw [Bc, Ac]; simp; omega), Gc, Gp (by simp; omega), Aa, Aa, Aa, List.nil_append, e8]
 simp only
 rw [if_neg (by rw [As]; simp), hv, hr, Aa, Aa]
 generalize Xn ch p (8 * p.length) (n * ch) 0 [] = V at *
 obtain ⟨v, at', e⟩ := V
 simp only at *
 by_cases he : e ≠ 0
 ·rw [if_pos he, if_pos he]
  simp only
  rw [if_pos (by rw [As]; simpa using he), Jc, Ge, if_pos (by rw [As]; simpa using he)]
  exact ⟨[], e, rfl, rfl, fun h => absurd h he⟩
 have he0 : e = 0 := by simpa using he
 have hvl := hat.2.2 he0
 simp only [List.length_nil, Nat.zero_add] at hvl
 rw [if_neg he, if_neg he]
 simp only
 rw [if_neg (by rw [As]; simp), Bt (by omega) (by omega), show ((8 * p.length : Nat) : Int) - (at' : Int) = ((8 * p.length - at' : Nat) : Int) by omega, Jc, Ge]
 by_cases h7 : 7 < 8 * p.length - at'
 ·have hE : (if 7 < 8 * p.length - at' ∨ Bq p at' (8 * p.length - at') ≠ 0 then (12 : Int) else 0) = 12 := if_pos (.inl h7)
  rw [if_pos (by rw [Dm]; simp; omega), hE, if_pos (by decide)]
  exact ⟨[], 12, rfl, rfl, fun h => absurd h (by decide)⟩
 rw [if_neg (by rw [Dm]; simp; omega), Apk hp at' _ (by omega), if_neg (by omega), Aa]
 have hz : Db (Tk p at' (8 * p.length - at')) (0 : UInt64) = decide (Bq p at' (8 * p.length - at') ≠ 0) := by
  rw [Adk, Bool.eq_iff_iff]
  simp only [bne_iff_ne, ne_eq, ← UInt64.toNat_inj, decide_eq_true_eq]
  rw [Ym p _ _ (by omega)]; rfl
 simp only
 rw [hz]
 by_cases hv0 : Bq p at' (8 * p.length - at') ≠ 0
 ·have hE : (if 7 < 8 * p.length - at' ∨ Bq p at' (8 * p.length - at') ≠ 0 then (12 : Int) else 0) = 12 := if_pos (.inr hv0)
  rw [if_pos (by simp [hv0]), hE, if_pos (by decide)]
  exact ⟨[], 12, rfl, rfl, fun h => absurd h (by decide)⟩
 have hm : v.length % ch = 0 := by rw [hvl]; exact Nat.mul_mod_left n ch
 obtain ⟨l, e, g1, g2, g3, g4, g5⟩ := Aw1 (v := v) hb ht h1 h6 (by omega) hm
 have hE : (if 7 < 8 * p.length - at' ∨ Bq p at' (8 * p.length - at') ≠ 0 then (12 : Int) else 0) = 0 := if_neg (by omega)
 rw [if_neg (by rw [decide_eq_false hv0]; decide), hE, if_neg (by decide), g1, g3, Aa, Aa, g2]
 by_cases hl : e ≠ 0
 ·rw [if_pos hl]
  exact ⟨[], e, rfl, rfl, fun h => absurd h hl⟩
 ·rw [if_neg hl]
  have hl0 : e = 0 := by simpa using hl
  exact ⟨l, 0, rfl, rfl, fun _ => ⟨by rw [g4, hl0], by omega⟩⟩
end Go.Pl
set_option linter.unusedVariables false
set_option linter.unusedSimpArgs false
namespace Go.Pl
open Go Go.Lv
def P64 : Nat := 4823603603198064275
def Acq (s : Nat) : Nat := (2 * s % 18446744073709551616) ^^^ (s / 9223372036854775808 * P64)
theorem Ah1 {s : Nat} (h : s < 18446744073709551616) : Acq s < 18446744073709551616 := by
 have h1 : s / 9223372036854775808 = 0 ∨ s / 9223372036854775808 = 1 := by omega
 exact Nat.xor_lt_two_pow (n := 64) (Nat.mod_lt _ (by decide)) (by rcases h1 with e | e <;> rw [e] <;> decide)
theorem Bdl (x y : Nat) : (x ^^^ y) / 9223372036854775808 = (x / 9223372036854775808) ^^^ (y / 9223372036854775808) := by
 have := Nat.shiftRight_xor_distrib (a := x) (b := y) (i := 63)
 simpa [Nat.shiftRight_eq_div_pow] using this
theorem Beh (x y : Nat) : 2 * (x ^^^ y) % 18446744073709551616 = (2 * x % 18446744073709551616) ^^^ (2 * y % 18446744073709551616) := by
 have h1 := Nat.shiftLeft_xor_distrib (a := x) (b := y) (i := 1)
 have h2 := Nat.xor_mod_two_pow (a := 2 * x) (b := 2 * y) (n := 64)
 have e : 2 * (x ^^^ y) = (2 * x) ^^^ (2 * y) := by simpa [Nat.shiftLeft_eq, Nat.mul_comm] using h1
 rw [e]; exact h2
theorem Bkv {a b : Nat} (ha : a = 0 ∨ a = 1) (hb : b = 0 ∨ b = 1) (p : Nat) : (a ^^^ b) * p = (a * p) ^^^ (b * p) := by
 rcases ha with rfl | rfl <;> rcases hb with rfl | rfl <;> simp
theorem Bqe (a b c d : Nat) : (a ^^^ b) ^^^ (c ^^^ d) = (a ^^^ c) ^^^ (b ^^^ d) := by
 rw [Nat.xor_assoc, Nat.xor_assoc, ← Nat.xor_assoc b c d, Nat.xor_comm b c, Nat.xor_assoc c b d]
theorem Bbp {x y : Nat} (hx : x < 18446744073709551616) (hy : y < 18446744073709551616) : Acq (x ^^^ y) = Acq x ^^^ Acq y := by
 rw [Acq, Acq, Acq, Beh, Bdl, Bkv (by omega) (by omega), Bqe]
def Ks : Nat → Nat → Nat
 | 0, s => s
 | k + 1, s => Ks k (Acq s)
theorem Apa : ∀ (k : Nat) {s : Nat}, s < 18446744073709551616 → Ks k s < 18446744073709551616
 | 0, _, h => h
 | k + 1, _, h => Apa k (Ah1 h)
theorem As5 : ∀ (k : Nat) {x y : Nat}, x < 18446744073709551616 → y < 18446744073709551616 → Ks k (x ^^^ y) = Ks k x ^^^ Ks k y
 | 0, _, _, _, _ => rfl
 | k + 1, x, y, hx, hy => by rw [Ks, Bbp hx hy, As5 k (Ah1 hx) (Ah1 hy)]; rfl
theorem Arq : ∀ (k h : Nat), 2 ^ k * h < 18446744073709551616 → Ks k h = 2 ^ k * h
 | 0, h, _ => by simp [Ks]
 | k + 1, h, hl => by
  have hpos : 0 < 2 ^ k := Nat.pow_pos (by omega)
  rw [Nat.pow_succ, Nat.mul_assoc] at hl
  have h2 : 2 * h < 18446744073709551616 := Nat.lt_of_le_of_lt (Nat.le_mul_of_pos_left _ hpos) hl
  have : Acq h = 2 * h := by rw [Acq, Nat.mod_eq_of_lt h2, show h / 9223372036854775808 = 0 by omega]; simp
  rw [Ks, this, Arq k _ hl, Nat.pow_succ, Nat.mul_assoc]
def Ako (s c : Nat) : Nat := Ks 8 (s ^^^ (c * 72057594037927936))
theorem c56 {c : Nat} (hc : c < 256) : c * 72057594037927936 < 18446744073709551616 := by omega
theorem Apo {s c : Nat} (h : s < 18446744073709551616) (hc : c < 256) : Ako s c < 18446744073709551616 := Apa 8 (Nat.xor_lt_two_pow (n := 64) h (c56 hc))
theorem Blt (s : Nat) : s = (s / 72057594037927936 * 72057594037927936) ^^^ (s % 72057594037927936) := by
 have h1 : s % 72057594037927936 < 2 ^ 56 := Nat.mod_lt _ (by decide)
 have := Nat.two_pow_add_eq_or_of_lt h1 (s / 72057594037927936)
 have h2 : 2 ^ 56 * (s / 72057594037927936) ||| s % 72057594037927936 = (2 ^ 56 * (s / 72057594037927936)) ^^^ (s % 72057594037927936) := by
  apply Nat.eq_of_testBit_eq; intro i
  rw [Nat.testBit_or, Nat.testBit_xor]
  by_cases hi : i < 56
  ·have : (2 ^ 56 * (s / 72057594037927936)).testBit i = false := by rw [Nat.testBit_two_pow_mul]; simp; omega
   rw [this]; simp
  ·have : (s % 72057594037927936).testBit i = false := Nat.testBit_lt_two_pow (Nat.lt_of_lt_of_le h1 (Nat.pow_le_pow_right (by omega) (by omega)))
   rw [this]; simp
 rw [Nat.mul_comm (s / 72057594037927936)]
 show s = (2 ^ 56 * (s / 72057594037927936)) ^^^ _
 rw [← h2, ← this]
 have := Nat.div_add_mod s 72057594037927936
 show s = 72057594037927936 * _ + _
 omega
theorem Bgs (a c : Nat) : (a ^^^ c) * 72057594037927936 = (a * 72057594037927936) ^^^ (c * 72057594037927936) := by
 have h1 := Nat.shiftLeft_xor_distrib (a := a) (b := c) (i := 56)
 simpa [Nat.shiftLeft_eq] using h1
theorem Axe {s c : Nat} (h : s < 18446744073709551616) (hc : c < 256) : Ako s c = (256 * s % 18446744073709551616) ^^^ Ks 8 (((s / 72057594037927936) ^^^ c) * 72057594037927936) := by
 have hs : s / 72057594037927936 < 2 ^ 8 := by show _ < 256; omega
 have hx : (s / 72057594037927936) ^^^ c < 256 := Nat.xor_lt_two_pow (n := 8) hs (by simpa using hc)
 have hl : s % 72057594037927936 < 72057594037927936 := Nat.mod_lt _ (by decide)
 rw [Ako]
 conv => lhs; rw [Blt s]
 rw [Nat.xor_comm (s / 72057594037927936 * 72057594037927936), Nat.xor_assoc, ← Bgs, As5 8 (by omega) (c56 hx), Arq 8 _ (by show 256 * _ < _; omega)]
 congr 1
 show 256 * (s % 72057594037927936) = _
 omega
def Asy (s : Nat) (l : List UInt8) : Nat := l.foldl (fun s c => Ako s c.toNat) s
theorem Aux {n : Nat} (h : n < 18446744073709551616) : (UInt64.ofNat n).toNat = n := by rw [UInt64.toNat_ofNat']; exact Nat.mod_eq_of_lt h
theorem Bn0 (s : UInt64) (bit : Nat) (hb : bit = 0 ∨ bit = 1) : Rm s (bit : Int) = some (UInt64.ofNat ((2 * s.toNat % 18446744073709551616) ^^^ (((s.toNat / 9223372036854775808) ^^^ bit) * P64))) := by
 have hs := s.toNat_lt
 have ht : s.toNat / 9223372036854775808 = 0 ∨ s.toNat / 9223372036854775808 = 1 := by omega
 have e1 : (Bp s (2 : UInt64)).toNat = 2 * s.toNat % 18446744073709551616 := by
  rw [Ab2, UInt64.toNat_mul]; show s.toNat * 2 % _ = _; rw [Nat.mul_comm]
 have hlt : 2 * s.toNat % 18446744073709551616 < 18446744073709551616 := Nat.mod_lt _ (by decide)
 have ey : Vq (Bp s (2 : UInt64)) (4823603603198064275 : UInt64) = UInt64.ofNat ((2 * s.toNat % 18446744073709551616) ^^^ P64) := by
  apply UInt64.toNat_inj.1
  rw [Att, UInt64.toNat_xor, e1, Aux (Nat.xor_lt_two_pow (n := 64) hlt (by decide))]; rfl
 have en : Bp s (2 : UInt64) = UInt64.ofNat (2 * s.toNat % 18446744073709551616) := by
  apply UInt64.toNat_inj.1
  rw [e1, Aux hlt]
 have eg : Re s (9223372036854775808 : UInt64) = decide (s.toNat / 9223372036854775808 = 1) := by
  rw [Bmx, decide_eq_decide]
  show 9223372036854775808 ≤ s.toNat ↔ _
  omega
 have hp : ∀ b : Bool, Lu s b = some (if b = true then UInt64.ofNat ((2 * s.toNat % 18446744073709551616) ^^^ P64) else UInt64.ofNat (2 * s.toNat % 18446744073709551616)) := by
  intro b
  rw [Lu, Abu, ey, en]; cases b <;> rfl
 rw [Rm, Sg, hp, hp, eg]
 rcases hb with rfl | rfl <;> rcases ht with h | h <;> rw [h] <;> simp [Cd]
theorem Aqk (c : UInt8) : ∀ (j q : Nat) (s : UInt64), j ≤ 8 → j < q → Fu c q s ((2 ^ j / 2 : Nat) : Int) = some (UInt64.ofNat (Ks j (s.toNat ^^^ (c.toNat % 2 ^ j * 2 ^ (64 - j)))))
 | 0, q + 1, s, _, _ => by
  rw [Fu, Lh, if_neg (by rw [Bc]; simp), Sm, Abq]
  simp [Ks, Nat.mod_one]
 | j + 1, q + 1, s, hj, hq => by
  have hc := c.toNat_lt
  have hs := s.toNat_lt
  have hj2 : 2 ^ j ≤ 2 ^ 7 := Nat.pow_le_pow_right (by omega) (by omega)
  have hpos : 0 < 2 ^ j := Nat.pow_pos (by omega)
  have e1 : 2 ^ (j + 1) / 2 = 2 ^ j := by rw [Nat.pow_succ]; omega
  have e2 : Dc ((2 ^ j : Nat) : Int) 2 = ((2 ^ j / 2 : Nat) : Int) := by
   generalize 2 ^ j = K at *
   rw [Ae9, Int.tdiv_eq_ediv_of_nonneg (by omega), Bu (by omega) (by omega)]; omega
  have e3 : Il (Dc (Ad c : Int) ((2 ^ j : Nat) : Int)) (2 : Int) = ((c.toNat / 2 ^ j % 2 : Nat) : Int) := by
   have hX := Nat.div_le_self c.toNat (2 ^ j)
   rw [Ady, Ae9, ← Int.ofNat_tdiv]
   generalize c.toNat / 2 ^ j = X at *
   rw [Bu (by omega) (by omega), Il, Int.tmod_eq_emod_of_nonneg (by omega)]; omega
  have hbit : c.toNat / 2 ^ j % 2 = 0 ∨ c.toNat / 2 ^ j % 2 = 1 := by omega
  rw [Fu, Lh, e1, if_pos (by rw [Bc, decide_eq_true_eq]; omega), Cq (by rw [As, bne_iff_ne]; omega), Aa, e3, Bn0 s _ hbit, Aa, e2, Aqk c j q _ (by omega) (by omega)]
  congr 2
  rw [Ks]
  congr 1
  have hx : c.toNat % 2 ^ (j + 1) * 2 ^ (64 - (j + 1)) = (c.toNat / 2 ^ j % 2) * 9223372036854775808 + c.toNat % 2 ^ j * 2 ^ (63 - j) := by
   have h63 : (9223372036854775808 : Nat) = 2 ^ j * 2 ^ (63 - j) := by rw [← Nat.pow_add, show j + (63 - j) = 63 by omega]
   rw [Nat.mod_pow_succ, h63, show 64 - (j + 1) = 63 - j by omega, Nat.add_mul, Nat.add_comm, Nat.mul_assoc, Nat.mul_left_comm]
  have hr : c.toNat % 2 ^ j < 2 ^ j := Nat.mod_lt _ hpos
  have hb63 : c.toNat % 2 ^ j * 2 ^ (63 - j) < 9223372036854775808 := by
   have h63 : (9223372036854775808 : Nat) = 2 ^ j * 2 ^ (63 - j) := by rw [← Nat.pow_add, show j + (63 - j) = 63 by omega]
   rw [h63]; exact Nat.mul_lt_mul_of_pos_right hr (Nat.pow_pos (by omega))
  have h64 : c.toNat % 2 ^ j * 2 ^ (64 - j) = 2 * (c.toNat % 2 ^ j * 2 ^ (63 - j)) := by
   rw [show 64 - j = (63 - j) + 1 by omega, Nat.pow_succ, ← Nat.mul_assoc, Nat.mul_comm]
  rw [hx, h64]
  generalize c.toNat % 2 ^ j * 2 ^ (63 - j) = R at *
  generalize c.toNat / 2 ^ j % 2 = b at *
  have ht : s.toNat / 9223372036854775808 = 0 ∨ s.toNat / 9223372036854775808 = 1 := by omega
  have hp : ((s.toNat / 9223372036854775808 ^^^ b) * P64) < 18446744073709551616 := by
   rcases ht with h | h <;> rcases hbit with h2 | h2 <;> rw [h, h2] <;> decide
  rw [Aux (Nat.xor_lt_two_pow (n := 64) (Nat.mod_lt _ (by decide)) hp), Acq, Beh, Bdl, show (b * 9223372036854775808 + R) / 9223372036854775808 = b by omega, show 2 * (b * 9223372036854775808 + R) % 18446744073709551616 = 2 * R by omega, Nat.xor_assoc, Nat.xor_assoc, Nat.xor_comm (2 * R)]
theorem Bn6 (c : UInt8) (s : UInt64) : Yi s c = some (UInt64.ofNat (Ako s.toNat c.toNat)) := by
 have h := Aqk c 8 Ba s (Nat.le_refl _) (by have := Ay; omega)
 have hc := c.toNat_lt
 rw [Nat.mod_eq_of_lt (show c.toNat < 2 ^ 8 by simpa using hc)] at h
 exact h
theorem Amk (b : List UInt8) (hb : b.length < 4611686018427387904) : ∀ (j i q : Nat) (s : UInt64), i + j = b.length → j < q → Ep b q s (i : Int) = some (UInt64.ofNat (Asy s.toNat (b.drop i)))
 | 0, i, q + 1, s, hi, _ => by
  rw [Ep, Ja, if_neg (by rw [Af, Ac]; simp; omega), show i = b.length by omega, List.drop_length]
  simp [Oo, Zc, Asy]
 | j + 1, i, q + 1, s, hi, hq => by
  have hlt : i < b.length := by omega
  have hc := b[i].toNat_lt
  rw [Ep, Ja, if_pos (by rw [Af, Ac]; simp; omega), Dl hlt, Aa, Bn6, Aa, Ag (by omega) (by omega)]
  have h := Amk b hb j (i + 1) q (UInt64.ofNat (Ako s.toNat b[i].toNat)) (by omega) (by omega)
  rw [show ((i : Int) + 1) = ((i + 1 : Nat) : Int) by omega, h, drop_cons hlt, Aux (Apo s.toNat_lt (by simpa using hc))]
  rfl
def Aen (b : List UInt8) : UInt64 := UInt64.ofNat (Asy 0 b)
theorem Az9 (b : List UInt8) (hb : b.length ≤ 100000) : Mt 0 b = some (Aen b) :=
 Amk b (by omega) b.length 0 Ba 0 (by omega) (by have := Ay; omega)
theorem Bck (c : UInt64) : Vq (Eu c (GI.toZ (1 : UInt64)).toNat) (Bp (4823603603198064275 : UInt64) (Cj c (GI.toZ (63 : UInt64)).toNat)) = UInt64.ofNat (Acq c.toNat) := by
 have hc := c.toNat_lt
 apply UInt64.toNat_inj.1
 have h1 : (Eu c (GI.toZ (1 : UInt64)).toNat).toNat = 2 * c.toNat % 18446744073709551616 := by
  rw [show (GI.toZ (1 : UInt64)).toNat = 1 from rfl, Ag4, Nat.mul_comm]
 have h2 : (Bp (4823603603198064275 : UInt64) (Cj c (GI.toZ (63 : UInt64)).toNat)).toNat = c.toNat / 9223372036854775808 * P64 := by
  rw [show (GI.toZ (63 : UInt64)).toNat = 63 from rfl, Ab2, UInt64.toNat_mul, Ab6]
  show 4823603603198064275 * (c.toNat / 9223372036854775808) % 18446744073709551616 = _
  have h1 : c.toNat / 9223372036854775808 = 0 ∨ c.toNat / 9223372036854775808 = 1 := by omega
  rcases h1 with e | e <;> rw [e] <;> decide
 rw [Att, UInt64.toNat_xor, h1, h2, Aux (Ah1 hc)]; rfl
theorem Aqj (bk16 : Int → List UInt64 → Option (UInt64 × Int)) (s : UInt64) (b : List UInt8) (x : Int) (t : List UInt64) : ∀ (j i q : Nat) (c : UInt64), i + j = 8 → j < q →
  Ni bk16 s b x t q c (i : Int) = Yg bk16 s b x (UInt64.ofNat (Ks j c.toNat)) t
 | 0, i, q + 1, c, hi, _ => by
  obtain rfl : i = 8 := by omega
  rw [Ni, Yb, if_neg (by rw [Af]; simp), Ks, UInt64.ofNat_toNat]
 | j + 1, i, q + 1, c, hi, hq => by
  rw [Ni, Yb, if_pos (by rw [Af]; simp; omega), Bck, Ag (by omega) (by omega), show ((i : Int) + 1) = ((i + 1 : Nat) : Int) by omega, Aqj bk16 s b x t j (i + 1) q _ (by omega) (by omega), Aux (Ah1 c.toNat_lt)]; rfl
def Afw (n : Nat) : List UInt64 := (List.range n).map fun i => UInt64.ofNat (Ks 8 (i * 72057594037927936))
theorem Asl (s : UInt64) (b : List UInt8) : ∀ (j i q : Nat), i + j = 256 → j < q → Jm s b q (i : Int) (Afw i ++ List.replicate j 0) = Xt s b (Afw 256)
 | 0, i, q + 1, hi, _ => by
  obtain rfl : i = 256 := by omega
  rw [Jm, Zd, if_neg (by rw [Af]; simp)]; simp
 | j + 1, i, q + 1, hi, hq => by
  have hlen : (Afw i ++ List.replicate (j + 1) 0).length = i + (j + 1) := by simp [Afw]
  rw [Jm, Zd, if_pos (by rw [Af]; simp; omega), Ae2]
  have h := Aqj (Jm s b q) s b (i : Int) (Afw i ++ List.replicate (j + 1) 0) 8 0 Ba (Eu (Ad (i : Int) : UInt64) (GI.toZ (56 : UInt64)).toNat) (by omega) (by have := Ay; omega)
  rw [show ((0 : Int)) = ((0 : Nat) : Int) from rfl, h, Yg, Aei, Dl (by rw [hlen]; omega), Aa, Us _ (by rw [hlen]; omega), Aa, Aex, Akv, Ag (by omega) (by omega)]
  have e : (Eu (Ad (i : Int) : UInt64) (GI.toZ (56 : UInt64)).toNat).toNat = i * 72057594037927936 := by
   rw [Ag4, Xa, Aux (by omega)]
   show i * 72057594037927936 % 18446744073709551616 = _
   omega
  rw [e, List.replicate_succ, Alz (by simp [Afw])]
  have h2 := Asl s b j (i + 1) q (by omega) (by omega)
  have h3 : Afw (i + 1) = Afw i ++ [UInt64.ofNat (Ks 8 (i * 72057594037927936))] := by simp [Afw, List.range_succ]
  rw [h3] at h2
  rw [show ((i : Int) + 1) = ((i + 1 : Nat) : Int) by omega, ← h2]
  simp
theorem Bf4 {i : Nat} (h : i < 256) : Aj (Afw 256) (i : Int) = some (UInt64.ofNat (Ks 8 (i * 72057594037927936))) := by
 rw [Dl (by simpa [Afw] using h)]; simp [Afw]
theorem Ba2 (s : UInt64) (c : UInt8) : Aj (Afw 256) (GI.toZ (Vq (Ad (Cj s (GI.toZ (56 : UInt64)).toNat) : UInt8) c)) = some (UInt64.ofNat (Ks 8 (((s.toNat / 72057594037927936) ^^^ c.toNat) * 72057594037927936))) := by
 have hs := s.toNat_lt
 have e : GI.toZ (Vq (Ad (Cj s (GI.toZ (56 : UInt64)).toNat) : UInt8) c) = (((s.toNat / 72057594037927936) ^^^ c.toNat : Nat) : Int) := by
  have e2 : ((Ad (Cj s (GI.toZ (56 : UInt64)).toNat) : UInt8)).toNat = s.toNat / 72057594037927936 := by
   rw [Ai4, UInt8.toNat_ofNat', Ab6]
   show s.toNat / 72057594037927936 % 256 = _
   omega
  rw [Wn, Bd0, UInt8.toNat_xor, e2]
 rw [e, Bf4]
 exact Nat.xor_lt_two_pow (n := 8) (by show _ < 256; omega) (by simpa using c.toNat_lt)
theorem Axl (s : UInt64) (c : UInt8) : Vq (Eu s (GI.toZ (8 : UInt64)).toNat) (UInt64.ofNat (Ks 8 (((s.toNat / 72057594037927936) ^^^ c.toNat) * 72057594037927936))) = UInt64.ofNat (Ako s.toNat c.toNat) := by
 have hs := s.toNat_lt
 have hc : c.toNat < 256 := by simpa using c.toNat_lt
 apply UInt64.toNat_inj.1
 have hlt : Ks 8 (((s.toNat / 72057594037927936) ^^^ c.toNat) * 72057594037927936) < 18446744073709551616 := Apa 8 (c56 (Nat.xor_lt_two_pow (n := 8) (by show _ < 256; omega) (by simpa using c.toNat_lt)))
 have e : (GI.toZ (8 : UInt64)).toNat = 8 := rfl
 rw [e, Att, UInt64.toNat_xor, Ag4, Aux hlt, Aux (Apo hs hc), Axe hs hc, Nat.mul_comm s.toNat]
theorem Aqa (b : List UInt8) (s0 : UInt64) (hb : b.length < 4611686018427387904) : ∀ (j i q : Nat) (s : UInt64), i + j = b.length → j < q → Nh b s0 (Afw 256) q s (i : Int) = some (UInt64.ofNat (Asy s.toNat (b.drop i)), 0)
 | 0, i, q + 1, s, hi, _ => by
  rw [Nh, Ys, if_neg (by rw [Af, Ac]; simp; omega), show i = b.length by omega, List.drop_length]
  simp [Ae8, Aet, Afi, Akk, Asy]
 | j + 1, i, q + 1, s, hi, hq => by
  have hlt : i < b.length := by omega
  have hc := b[i].toNat_lt
  rw [Nh, Ys, if_pos (by rw [Af, Ac]; simp; omega), Dl hlt, Aa, Ba2, Aa, Aa, Axl, Ag (by omega) (by omega)]
  have h := Aqa b s0 hb j (i + 1) q (UInt64.ofNat (Ako s.toNat b[i].toNat)) (by omega) (by omega)
  rw [show ((i : Int) + 1) = ((i + 1 : Nat) : Int) by omega, h, drop_cons hlt, Aux (Apo s.toNat_lt (by simpa using hc))]
  rfl
theorem Ay5 (b : List UInt8) (hb : b.length ≤ 100000) : Aht b = some (Aen b, 0) := by
 have h := Asl 0 b 256 0 Ba (by omega) (by have := Ay; omega)
 have h2 := Aqa b 0 (by omega) b.length 0 Ba 0 (by omega) (by have := Ay; omega)
 have hn : Aij 0 b = some (Aen b, 0) := by
  rw [Aij, Agm, if_neg (by rw [Bc, Ac]; simp; omega), Aeo]
  refine Eq.trans h ?_
  rw [Xt, Aek, Ad2]
  exact h2
 rw [Aht, hn, Aa]
theorem Bgy (p : List UInt8) (hp : p.length ≤ 64) : Adf p = some (leB (Aen p).toNat 8, 0) := by
 rw [Adf, Apg, if_neg (by rw [Bc, Ac]; simp; omega), Ay5 p (by omega), Aa, Aa]
 simp only
 have h := Ayk (Aen p) 8 (by omega) (by omega) (by simpa using (Aen p).toNat_lt)
 rw [if_neg (by rw [As]; simp)]
 exact congrArg (fun o => Option.bind o fun x : List UInt8 × Int => some (x.1, x.2)) h
theorem Bgt (p : List UInt8) (hp : p.length ≤ 64) : Lj p = some (leB (Aen p).toNat 8) := by
 have h := Ar1 (Aen p) 8 (by omega)
 rw [Lj, Xs, Az9 p (by omega), Aa, Aa]
 exact congrArg (fun o => Option.bind o fun l => some l) h
def s8 (n : Nat) : Int32 := Int32.ofInt (if n < 128 then (n : Int) else (n : Int) - 256)
def Af5 (d : UInt64) (n : Nat) : List Int32 := (List.range n).map fun i => s8 (d.toNat / 256 ^ i % 256)
theorem Ag6 (d : UInt64) (n : Nat) : (Af5 d n).length = n := by simp [Af5]
theorem Atn (d : UInt64) (n : Nat) : Af5 d (n + 1) = Af5 d n ++ [s8 (d.toNat / 256 ^ n % 256)] := by simp [Af5, List.range_succ]
theorem bm8 (z : Nat) : (z : Int).bmod Int8.size = if z % 256 < 128 then ((z % 256 : Nat) : Int) else ((z % 256 : Nat) : Int) - 256 := by
 rw [show Int8.size = 256 from rfl, Int.bmod_def]
 split <;> split <;> omega
theorem Bet (d : UInt64) : ∀ (j i q : Nat), i + j = 8 → j < q → Aa3 d q (i : Int) (Af5 d i ++ List.replicate (16 - i) 0) = some (Af5 d 8 ++ List.replicate 8 0)
 | 0, i, q + 1, hi, _ => by
  obtain rfl : i = 8 := by omega
  rw [Aa3, Aif, if_neg (by rw [Af]; simp)]; rfl
 | j + 1, i, q + 1, hi, hq => by
  have hlen : (Af5 d i ++ List.replicate (16 - i) 0).length = 16 := by simp [Ag6]; omega
  have ih := Bet d j (i + 1) q (by omega) (by omega)
  have e8 : Bp (8 : Int) (i : Int) = ((8 * i : Nat) : Int) := by rw [Ih (by omega) (by omega)]; omega
  have ev : (Ad (Ad (Cj d (GI.toZ (((8 * i : Nat) : Int))).toNat) : Int8) : Int32) = s8 (d.toNat / 256 ^ i % 256) := by
   have e1 : (Cj d (GI.toZ (((8 * i : Nat) : Int))).toNat).toNat = d.toNat / 256 ^ i := by
    rw [show (GI.toZ (((8 * i : Nat) : Int))).toNat = 8 * i from rfl, Ab6, Nat.pow_mul]
   show Int32.ofInt (Int8.ofInt ((Cj d (GI.toZ (((8 * i : Nat) : Int))).toNat).toNat : Int)).toInt = _
   rw [e1, s8, Int8.toInt_ofInt, bm8]
  rw [Aa3, Aif, if_pos (by rw [Af]; simp; omega), e8, Cq (by rw [Dm]; simp; omega), Aa, ev, Dl (by omega), Aa, Us _ (by omega), Aa, Ag (by omega) (by omega), show 16 - i = (15 - i) + 1 by omega, List.replicate_succ, Alz (Ag6 d i)]
  rw [Atn, show 16 - (i + 1) = 15 - i by omega, List.append_assoc] at ih
  exact ih
theorem Bif (d : UInt64) : ∀ (j i q : Nat) (e : UInt64), i + j = 8 → j < q → e.toNat = d.toNat / 256 ^ i → Fl q e (i : Int) (Af5 d i ++ List.replicate (16 - i) 0) = some (Af5 d 8 ++ List.replicate 8 0)
 | 0, i, q + 1, e, hi, _, he => by
  obtain rfl : i = 8 := by omega
  rw [Fl, Pr, if_neg (by rw [Af]; simp)]; rfl
 | j + 1, i, q + 1, e, hi, hq, he => by
  have hlen : (Af5 d i ++ List.replicate (16 - i) 0).length = 16 := by simp [Ag6]; omega
  have hq2 : (Dc e (256 : UInt64)).toNat = d.toNat / 256 ^ (i + 1) := by
   rw [Aoy, UInt64.toNat_div, he, Nat.pow_succ, ← Nat.div_div_eq_div_mul]; rfl
  have ih := Bif d j (i + 1) q (Dc e (256 : UInt64)) (by omega) (by omega) hq2
  have ev : (Ad (Xo e (256 : UInt64)) : Int32) = Int32.ofInt ((d.toNat / 256 ^ i % 256 : Nat) : Int) := by
   show Int32.ofInt ((Xo e (256 : UInt64)).toNat : Int) = _
   rw [Ayy, UInt64.toNat_mod, he]; rfl
  have hz : d.toNat / 256 ^ i % 256 < 256 := Nat.mod_lt _ (by omega)
  have et : (Int32.ofInt ((d.toNat / 256 ^ i % 256 : Nat) : Int)).toInt = ((d.toNat / 256 ^ i % 256 : Nat) : Int) := by
   rw [Int32.toInt_ofInt, Int.bmod_eq_of_le (by show -(4294967296 / 2 : Int) ≤ _; omega) (by show _ < (4294967296 + 1) / 2; omega)]
  have hp8 : ∀ x : Int32, x = s8 (d.toNat / 256 ^ i % 256) → Po (Fl q) e (i : Int) (Af5 d i ++ List.replicate (16 - i) 0) x = some (Af5 d 8 ++ List.replicate 8 0) := by
   intro x hx
   rw [Po, Aec, hx, Dl (by omega), Aa, Us _ (by omega), Aa, Ag (by omega) (by omega), show 16 - i = (15 - i) + 1 by omega, List.replicate_succ, Alz (Ag6 d i)]
   rw [Atn, show 16 - (i + 1) = 15 - i by omega, List.append_assoc] at ih
   exact ih
  rw [Fl, Pr, if_pos (by rw [Af]; simp; omega), ev, Bcp, et, show (127 : Int32).toInt = 127 from rfl]
  by_cases h : d.toNat / 256 ^ i % 256 < 128
  ·rw [if_neg (by simp only [decide_eq_true_eq]; omega)]
   exact hp8 _ (by rw [s8, if_pos h])
  ·rw [if_pos (by simp only [decide_eq_true_eq]; omega)]
   refine hp8 _ ?_
   rw [s8, if_neg h, Arv, Int32.ofInt_sub]; rfl
def Ah4 (p : List UInt8) : List Int32 := Af5 (Aen p) 8 ++ List.replicate 8 0
theorem Bci (p : List UInt8) : (Ah4 p).length = 16 := by simp [Ah4, Ag6]
theorem Bgp (p : List UInt8) (hp : p.length ≤ 64) : Aln p = some (Ah4 p, 0) := by
 have h := Bet (Aen p) 8 0 Ba (by omega) (by have := Ay; omega)
 have h2 : Aw8 (Aen p) = some (Ah4 p) := h
 rw [Aln, if_neg (by rw [Bc, Ac]; simp; omega), Ay5 p (by omega), Aa]
 simp only
 rw [if_neg (by rw [As]; simp), h2, Aa]
theorem Bkb (p : List UInt8) (hp : p.length ≤ 64) : Lw p = some (Ah4 p, 0) := by
 have h := Bif (Aen p) 8 0 Ba (Aen p) (by omega) (by have := Ay; omega) (by simp)
 have h2 : Acp (Aen p) = some (Ah4 p) := h
 rw [Lw, if_neg (by rw [Bc, Ac]; simp; omega), Aao, Xw, if_neg (by rw [Bc, Ac]; simp; omega), Az9 p (by omega), Aa, Aa, Aa]
 simp only
 rw [h2, Aa]
end Go.Pl
set_option linter.unusedVariables false
set_option linter.unusedSimpArgs false
namespace Go.Pl
open Go Go.Lv
def u8 (z : Int) : UInt8 := UInt8.ofNat (z % 256).toNat
theorem Axz (z : Int) : u8 (z % 256) = u8 z := by rw [u8, u8]; congr 2; omega
def wB (bits : Int) : Nat := if bits = 8 then 1 else if bits = 16 then 2 else 3
theorem Bjb {bits : Int} (h : Fx bits) : Dc bits 8 = (wB bits : Int) := by obtain rfl | rfl | rfl := h <;> rfl
theorem Bnc (bits : Int) : 1 ≤ wB bits ∧ wB bits ≤ 3 := by
 unfold wB; split; · omega
 ·split <;> omega
def Am3 (bits : Int) (x : Int) : List UInt8 := if bits = 8 then [u8 (x + 128)] else if bits = 16 then [u8 x, u8 (x / 256)] else [u8 x, u8 (x / 256), u8 (x / 65536)]
theorem Azt (bits x : Int) : (Am3 bits x).length ≤ 3 := by
 unfold Am3; split; · simp
 ·split <;> simp
theorem Bji (x : Int32) (k : Nat) (hk : k ≤ 32) : (Ad (Cj x k) : UInt8) = u8 (x.toInt.fdiv (2 ^ k)) := by
 have h := Ya x
 have e : Cj x k = Int32.ofInt (x.toInt.fdiv (2 ^ k)) := by
  show Int32.ofInt (x.toInt.fdiv (2 ^ min k 32)) = _
  rw [Nat.min_eq_left hk]
 have hb : -2147483648 ≤ x.toInt.fdiv (2 ^ k) ∧ x.toInt.fdiv (2 ^ k) < 2147483648 := by
  have hpos : (0 : Int) < 2 ^ k := Int.pow_pos (by omega)
  rw [Int.fdiv_eq_ediv_of_nonneg _ (by omega)]
  constructor
  ·refine (Int.le_ediv_iff_mul_le hpos).2 ?_
   have : (1 : Int) ≤ 2 ^ k := by omega
   have h2 : -2147483648 * (2 ^ k : Int) ≤ -2147483648 * 1 := Int.mul_le_mul_of_nonpos_left (by omega) this
   omega
  ·refine Int.ediv_lt_of_lt_mul hpos ?_
   have : (1 : Int) ≤ 2 ^ k := by omega
   have h2 : (2147483648 : Int) * 1 ≤ 2147483648 * 2 ^ k := Int.mul_le_mul_of_nonneg_left this (by omega)
   omega
 show UInt8.ofNat ((Cj x k).toInt % 256).toNat = _
 rw [e, Int32.toInt_ofInt, Int.bmod_eq_of_le (by show -(4294967296 / 2 : Int) ≤ _; omega) (by show _ < (4294967296 + 1) / 2; omega)]; rfl
section
variable (bk : Int → List UInt8 → Option (List UInt8 × Int)) (l : List Int32)
theorem Are {bits : Int} (h : Fx bits) (c : Int32) (x : Int) (i q : Nat) (acc : List UInt8) (hi : i < wB bits) (ha : acc.length ≤ 100000) :
  Gm bk bits l c x (q + 1) (i : Int) acc = Gm bk bits l c x q ((i + 1 : Nat) : Int) (acc ++ [u8 (c.toInt.fdiv (2 ^ (8 * i)))]) := by
 have hw := Bnc bits
 have e8 : Bp (8 : Int) (i : Int) = ((8 * i : Nat) : Int) := by rw [Ih (by omega) (by omega)]; omega
 rw [Gm, Vx, Bjb h, if_pos (by rw [Af]; simp; omega), e8, Cq (by rw [Dm]; simp; omega), Aa, show (GI.toZ (((8 * i : Nat) : Int))).toNat = 8 * i from rfl, Bji _ _ (by omega), Gp (by simp; omega), Aa, Ag (by omega) (by omega)]; rfl
theorem Bbn {bits : Int} (h : Fx bits) (c : Int32) (x : Int) (q : Nat) (acc : List UInt8) : Gm bk bits l c x (q + 1) ((wB bits : Nat) : Int) acc = bk (Ae x 1) acc := by
 rw [Gm, Vx, Bjb h, if_neg (by rw [Af]; simp), Acz, Ajn]
theorem Boa {bits : Int} (h : Fx bits) (c : Int32) (x : Int) (acc : List UInt8) (ha : acc.length ≤ 90000) (hr : -(hB bits) ≤ c.toInt ∧ c.toInt < hB bits) :
  Ii bk bits l x acc (if bits = 8 then Ae c (128 : Int32) else c) = bk (Ae x 1) (acc ++ Am3 bits c.toInt) := by
 have e : Ba = (Ba - 4) + 1 + 1 + 1 + 1 := by have := Ay; omega
 have hc := Ya c
 rw [Ii, Acm, Acr, e]
 have g0 := fun (c : Int32) q acc ha => Are bk l h c x 0 q acc (by have := Bnc bits; omega) ha
 obtain rfl | rfl | rfl := h
 ·have hh : hB 8 = 128 := rfl
  rw [hh] at hr
  have e1 : (Ae c (128 : Int32)).toInt = c.toInt + 128 := by
   show (Int32.ofInt (c.toInt + (128 : Int32).toInt)).toInt = _
   rw [show (128 : Int32).toInt = 128 from rfl, Int32.toInt_ofInt, Int.bmod_eq_of_le (by show -(4294967296 / 2 : Int) ≤ _; omega) (by show _ < (4294967296 + 1) / 2; omega)]
  have g1 := Bbn bk l (bits := 8) (.inl rfl) (Ae c (128 : Int32)) x (Ba - 4 + 1 + 1)
  rw [if_pos rfl, show (0 : Int) = ((0 : Nat) : Int) from rfl, g0 _ _ _ (by omega)]
  refine Eq.trans (g1 _) ?_
  rw [e1, Am3, if_pos rfl]
  show bk _ (acc ++ [u8 ((c.toInt + 128).fdiv 1)]) = _
  rw [Int.fdiv_one]
 ·have g1 := fun q acc ha => Are bk l (bits := 16) (.inr (.inl rfl)) c x 1 q acc (by decide) ha
  have g2 := Bbn bk l (bits := 16) (.inr (.inl rfl)) c x (Ba - 4 + 1)
  rw [if_neg (by decide), show (0 : Int) = ((0 : Nat) : Int) from rfl, g0 _ _ _ (by omega), g1 _ _ (by simp; omega)]
  refine Eq.trans (g2 _) ?_
  rw [Am3, if_neg (by decide), if_pos rfl, List.append_assoc]
  show bk _ (acc ++ [u8 (c.toInt.fdiv 1), u8 (c.toInt.fdiv 256)]) = _
  rw [Int.fdiv_one, Int.fdiv_eq_ediv_of_nonneg _ (by omega)]
 ·have g1 := fun q acc ha => Are bk l (bits := 24) (.inr (.inr rfl)) c x 1 q acc (by decide) ha
  have g2 := fun q acc ha => Are bk l (bits := 24) (.inr (.inr rfl)) c x 2 q acc (by decide) ha
  have g3 := Bbn bk l (bits := 24) (.inr (.inr rfl)) c x (Ba - 4)
  rw [if_neg (by decide), show (0 : Int) = ((0 : Nat) : Int) from rfl, g0 _ _ _ (by omega), g1 _ _ (by simp; omega), g2 _ _ (by simp; omega)]
  refine Eq.trans (g3 _) ?_
  rw [Am3, if_neg (by decide), if_neg (by decide), List.append_assoc, List.append_assoc]
  show bk _ (acc ++ [u8 (c.toInt.fdiv 1), u8 (c.toInt.fdiv 256), u8 (c.toInt.fdiv 65536)]) = _
  rw [Int.fdiv_one, Int.fdiv_eq_ediv_of_nonneg _ (by omega), Int.fdiv_eq_ediv_of_nonneg _ (by omega)]
end
def Oz (bits : Int) (l : List Int32) : List UInt8 := l.flatMap fun x => Am3 bits x.toInt
theorem Amv (bits : Int) : ∀ l : List Int32, (Oz bits l).length ≤ 3 * l.length
 | [] => by simp [Oz]
 | x :: l => by
  have h1 := Amv bits l
  have h2 := Azt bits x.toInt
  simp only [Oz, List.flatMap_cons, List.length_append, List.length_cons] at *
  omega
def inR (bits : Int) (l : List Int32) : Prop := ∀ x ∈ l, -(hB bits) ≤ x.toInt ∧ x.toInt < hB bits
theorem Bes {bits : Int} (h : Fx bits) (l : List Int32) (hl : l.length ≤ 4000) (hr : inR bits l) : ∀ (j i q : Nat), i + j = l.length → j < q → Ek bits l q (i : Int) (Oz bits (l.take i)) = some (Oz bits l, 0)
 | 0, i, q + 1, hi, _ => by
  rw [Ek, Vy, if_neg (by rw [Af, Ac]; simp; omega), List.take_of_length_le (by omega)]; rfl
 | j + 1, i, q + 1, hi, hq => by
  have hlt : i < l.length := by omega
  have ih := Bes h l hl hr j (i + 1) q (by omega) (by omega)
  have hlen := Amv bits (l.take i)
  have hx := hr l[i] (List.getElem_mem _)
  have h1 := Boa (Ek bits l q) l h l[i] (i : Int) (Oz bits (l.take i)) (by rw [List.length_take] at hlen; omega) hx
  rw [Ek, Vy, if_pos (by rw [Af, Ac]; simp; omega), Dl hlt, Aa]
  have e : (if (geq bits (8 : Int)) = true then Ii (Ek bits l q) bits l (i : Int) (Oz bits (l.take i)) (Ae l[i] (128 : Int32)) else Ii (Ek bits l q) bits l (i : Int) (Oz bits (l.take i)) l[i]) = Ii (Ek bits l q) bits l (i : Int) (Oz bits (l.take i)) (if bits = 8 then Ae l[i] (128 : Int32) else l[i]) := by
   by_cases h8 : bits = 8
   ·rw [if_pos (by rw [Cd]; simpa using h8), if_pos h8]
   ·rw [if_neg (by rw [Cd]; simpa using h8), if_neg h8]
  rw [e, h1, Ag (by omega) (by omega)]
  rw [Aho hlt] at ih
  have e2 : Oz bits (l.take i ++ [l[i]]) = Oz bits (l.take i) ++ Am3 bits l[i].toInt := by unfold Oz; rw [List.flatMap_append, List.flatMap_singleton]
  rw [e2] at ih
  exact ih
theorem Au8 {bits : Int} (h : Fx bits) {l : List Int32} (hl : l.length ≤ 4000) (hc : Bf bits l = some 0) : inR bits l := by
 have hh := Asf bits
 have key : ∀ (j i q : Nat), i + j = l.length → j < q → Bk l (hB bits) q (i : Int) = some 0 → ∀ k, i ≤ k → (hk : k < l.length) → -(hB bits) ≤ l[k].toInt ∧ l[k].toInt < hB bits := by
  intro j
  induction j with
  | zero => intro i q hi hq _ k h1 h2; omega
  | succ j ih =>
   intro i q hi hq hs k h1 h2
   obtain ⟨q, rfl⟩ : ∃ k, q = k + 1 := ⟨q - 1, by omega⟩
   rw [Bk, Ds, if_pos (by rw [Af, Ac]; simp; omega), Dl (by omega), Aa, Aa, Ee, Bcz, Bu (by omega) (by omega), Ag (by omega) (by omega), Af, Dm] at hs
   by_cases g1 : l[i].toInt < 0 - hB bits
   ·rw [if_pos (by simpa using g1)] at hs; simp at hs
   ·rw [if_neg (by simpa using g1)] at hs
    by_cases g2 : hB bits ≤ l[i].toInt
    ·rw [if_pos (by simpa using g2)] at hs; simp at hs
    ·rw [if_neg (by simpa using g2)] at hs
     by_cases hk : k = i
     ·subst hk; omega
     ·exact ih (i + 1) q (by omega) (by omega) hs k (by omega) h2
 rw [Bf, Gv, Au9 h, Aa, if_neg (by rw [Cd]; simp; omega), if_neg (by rw [Bc, Ac]; simp; omega)] at hc
 have := key l.length 0 Ba (by omega) (by have := Ay; omega) hc
 intro x hx
 obtain ⟨k, hk, rfl⟩ := List.getElem_of_mem hx
 exact this k (by omega) hk
theorem Bcg {bits : Int} (h : Fx bits) {l : List Int32} (hl : l.length ≤ 4000) (hc : Bf bits l = some 0) : Afy bits l = some (Oz bits l, 0) := by
 have h1 := Bes h l hl (Au8 h hl hc) l.length 0 Ba (by omega) (by have := Ay; omega)
 rw [Afy, Aee, Atk h l hl, hc, Aa, if_neg (by rw [As]; simp)]
 exact h1
theorem Bko {bits : Int} (h : Fx bits) (x : Int32) (hr : -(hB bits) ≤ x.toInt ∧ x.toInt < hB bits) : Tw bits x = some (Am3 bits x.toInt) := by
 have hx := Ya x
 have gu : ∀ z : Int, (Ad z : UInt8) = u8 z := fun z => rfl
 have hq : ∀ n : Int, 0 ≤ n → n ≤ 20000000 → Dc n (256 : Int) = n / 256 ∧ Dc n (65536 : Int) = n / 65536 := by
  intro n h1 h2
  constructor <;> (rw [Ae9, Int.tdiv_eq_ediv_of_nonneg h1, Bu (by omega) (by omega)])
 have hm : ∀ n : Int, 0 ≤ n → Il n (256 : Int) = n % 256 := fun n h1 => by rw [Il, Int.tmod_eq_emod_of_nonneg h1]
 rw [Tw, Um, Ee]
 obtain rfl | rfl | rfl := h
 ·rw [if_pos (by rw [Cd]; rfl), Ag (by omega) (by omega), gu, Am3, if_pos rfl]
 ·have hh : hB 16 = 32768 := rfl
  rw [hh] at hr
  have hp : ∀ n : Int, 0 ≤ n → n ≤ 70000 → u8 n = u8 x.toInt → u8 (n / 256) = u8 (x.toInt / 256) → Gf 16 n = some (Am3 16 x.toInt) := by
   intro n h1 h2 h3 h4
   rw [Gf, Up, if_neg (by rw [Cd]; decide), hm n h1, (hq n h1 (by omega)).1, hm _ (by omega), gu, gu, Axz, Axz, h3, h4, Am3, if_neg (by decide), if_pos rfl]
  rw [if_neg (by rw [Cd]; decide)]
  by_cases hn : x.toInt < 0
  ·rw [if_pos (by rw [Af]; simpa using hn), Au9 (.inr (.inl rfl)), Aa, hh, Ih (by omega) (by omega), Ag (by omega) (by omega)]
   refine hp _ (by omega) (by omega) ?_ ?_
   ·rw [u8, u8]; congr 2; omega
   ·rw [u8, u8]; congr 2; omega
  ·rw [if_neg (by rw [Af]; simpa using hn)]
   exact hp _ (by omega) (by omega) rfl rfl
 ·have hh : hB 24 = 8388608 := rfl
  rw [hh] at hr
  have hp : ∀ n : Int, 0 ≤ n → n ≤ 16777215 → u8 n = u8 x.toInt → u8 (n / 256) = u8 (x.toInt / 256) → u8 (n / 65536) = u8 (x.toInt / 65536) → Gf 24 n = some (Am3 24 x.toInt) := by
   intro n h1 h2 h3 h4 h5
   rw [Gf, Up, if_pos (by rw [Cd]; rfl), hm n h1, (hq n h1 (by omega)).1, (hq n h1 (by omega)).2, hm _ (by omega), gu, gu, gu, Axz, Axz, h3, h4, h5, Gp (by simp), Aa, Am3, if_neg (by decide), if_neg (by decide)]; rfl
  rw [if_neg (by rw [Cd]; decide)]
  by_cases hn : x.toInt < 0
  ·rw [if_pos (by rw [Af]; simpa using hn), Au9 (.inr (.inr rfl)), Aa, hh, Ih (by omega) (by omega), Ag (by omega) (by omega)]
   refine hp _ (by omega) (by omega) ?_ ?_ ?_
   ·rw [u8, u8]; congr 2; omega
   ·rw [u8, u8]; congr 2; omega
   ·rw [u8, u8]; congr 2; omega
  ·rw [if_neg (by rw [Af]; simpa using hn)]
   exact hp _ (by omega) (by omega) rfl rfl rfl
theorem Bds {bits : Int} (h : Fx bits) (l : List Int32) (hl : l.length ≤ 4000) (hr : inR bits l) : ∀ (j i q : Nat), i + j = l.length → j < q → Ff bits l q (i : Int) (Oz bits (l.take i)) = some (Oz bits l, 0)
 | 0, i, q + 1, hi, _ => by
  rw [Ff, Km, if_neg (by rw [Af, Ac]; simp; omega), List.take_of_length_le (by omega)]; rfl
 | j + 1, i, q + 1, hi, hq => by
  have hlt : i < l.length := by omega
  have ih := Bds h l hl hr j (i + 1) q (by omega) (by omega)
  have hlen := Amv bits (l.take i)
  have hol := Azt bits l[i].toInt
  rw [List.length_take] at hlen
  have e2 : Oz bits (l.take i ++ [l[i]]) = Oz bits (l.take i) ++ Am3 bits l[i].toInt := by unfold Oz; rw [List.flatMap_append, List.flatMap_singleton]
  rw [Aho hlt, e2] at ih
  rw [Ff, Km, if_pos (by rw [Af, Ac]; simp; omega), Dl hlt, Aa, Bko h _ (hr l[i] (List.getElem_mem _)), Aa, Gp (by omega), Aa, Ag (by omega) (by omega)]
  exact ih
theorem Be3 {bits : Int} (h : Fx bits) {l : List Int32} (hl : l.length ≤ 4000) (hc : Bf bits l = some 0) : Pc bits l = some (Oz bits l, 0) := by
 have h1 := Bds h l hl (Au8 h hl hc) l.length 0 Ba (by omega) (by have := Ay; omega)
 rw [Pc, Rc, hc, Aa, if_neg (by rw [As]; simp)]
 exact h1
end Go.Pl
set_option linter.unusedVariables false
set_option linter.unusedSimpArgs false
namespace Go.Pl
open Go Go.Lv
def Ahs : List UInt8 → Nat → Int × Int
 | [], n => ((n : Int), 0)
 | c :: r, n => if 128 ≤ c.toNat then (0, 12) else Ahs r (128 * n + c.toNat)
theorem Beu : ∀ (l : List UInt8) (n k : Nat), n < 128 ^ k → 0 ≤ (Ahs l n).1 ∧ (Ahs l n).1 < ((128 ^ (k + l.length) : Nat) : Int)
 | [], n, k, h => by simp [Ahs]; exact_mod_cast h
 | c :: r, n, k, h => by
  rw [Ahs]
  split
  ·have : 0 < 128 ^ (k + (c :: r).length) := Nat.pow_pos (by omega)
   exact ⟨Int.le_refl _, by simp only; exact_mod_cast this⟩
  ·have := Beu r (128 * n + c.toNat) (k + 1) (by rw [Nat.pow_succ]; omega)
   rw [List.length_cons, show k + (r.length + 1) = k + 1 + r.length by omega]
   exact this
theorem or7 (n c : Nat) (hn : n < 268435456) (hc : c < 128) : gor (Eu (n : Int) (GI.toZ (7 : UInt64)).toNat) (c : Int) = ((128 * n + c : Nat) : Int) := by
 have e : (GI.toZ (7 : UInt64)).toNat = 7 := rfl
 have h1 : Eu (n : Int) 7 = ((2 ^ 7 * n : Nat) : Int) := by
  have : Eu (n : Int) 7 = wrap64 ((n : Int) * 2 ^ 7) := rfl
  rw [this, Bu (by omega) (by omega)]; omega
 rw [e, h1]
 have h2 : gor ((2 ^ 7 * n : Nat) : Int) (c : Int) = wrap64 ((BitVec.ofInt 64 ((2 ^ 7 * n : Nat) : Int) ||| BitVec.ofInt 64 (c : Int)).toNat : Int) := rfl
 rw [h2, BitVec.toNat_or, BitVec.toNat_ofInt, BitVec.toNat_ofInt]
 have h3 : (((2 ^ 7 * n : Nat) : Int) % ((2 ^ 64 : Nat) : Int)).toNat = 2 ^ 7 * n := by omega
 have h4 : ((c : Int) % ((2 ^ 64 : Nat) : Int)).toNat = c := by omega
 rw [h3, h4, ← Nat.two_pow_add_eq_or_of_lt (by simpa using hc), Bu (by omega) (by omega)]
theorem Bdc (b : List UInt8) (hb : b.length = 4) : ∀ (j i q n : Nat), i + j = 4 → j < q → n < 128 ^ i → Jg b q (n : Int) (i : Int) = some (Ahs (b.drop i) n)
 | 0, i, q + 1, n, hi, _, _ => by
  rw [Jg, Tx, if_neg (by rw [Af, Ac]; simp; omega), show b.drop i = [] by simp; omega]; rfl
 | j + 1, i, q + 1, n, hi, hq, hn => by
  have hlt : i < b.length := by omega
  have hn2 : n < 268435456 := Nat.lt_of_lt_of_le hn (show 128 ^ i ≤ 128 ^ 4 from Nat.pow_le_pow_right (by omega) (by omega))
  rw [Jg, Tx, if_pos (by rw [Af, Ac]; simp; omega), Dl hlt, Aa, drop_cons hlt, Ahs, Bj8]
  by_cases hc : 128 ≤ b[i].toNat
  ·rw [if_pos (by simp; omega), if_pos hc]
  ·rw [if_neg (by simp; omega), if_neg hc, Ady, or7 n _ hn2 (by omega), Ag (by omega) (by omega)]
   exact Bdc b hb j (i + 1) q _ (by omega) (by omega) (by rw [Nat.pow_succ]; omega)
theorem Bi2 (b : List UInt8) (hb : b.length = 4) : ∀ (j i q n : Nat), i + j = 4 → j < q → n < 128 ^ i → Ex b q (n : Int) (i : Int) = some (Ahs (b.drop i) n)
 | 0, i, q + 1, n, hi, _, _ => by
  rw [Ex, Kj, if_neg (by rw [Af]; simp; omega), show b.drop i = [] by simp; omega]; rfl
 | j + 1, i, q + 1, n, hi, hq, hn => by
  have hlt : i < b.length := by omega
  have hn2 : n < 268435456 := Nat.lt_of_lt_of_le hn (show 128 ^ i ≤ 128 ^ 4 from Nat.pow_le_pow_right (by omega) (by omega))
  rw [Ex, Kj, if_pos (by rw [Af]; simp; omega), Dl hlt, Aa, drop_cons hlt, Ahs, Bj7]
  have h128 : (128 : UInt8).toNat = 128 := rfl
  by_cases hc : 128 ≤ b[i].toNat
  ·rw [if_pos (by simpa using hc), if_pos hc]
  ·have h3 := b[i].toNat_lt
   rw [if_neg (by simpa using hc), if_neg hc, Aa, Ady, Ih (by omega) (by omega), Ag (by omega) (by omega), Ag (by omega) (by omega)]
   have := Bi2 b hb j (i + 1) q (128 * n + b[i].toNat) (by omega) (by omega) (by rw [Nat.pow_succ]; omega)
   rw [← this]; rfl
theorem Bcy (b : List UInt8) (hb : b.length = 4) : Abd b = some (Ahs b 0) := by
 have h := Bdc b hb 4 0 Ba 0 (by omega) (by have := Ay; omega) (by simp)
 rw [Abd, Aaz, if_neg (by rw [As, Ac]; simp; omega), Aa5]; exact h
theorem Be4 (b : List UInt8) (hb : b.length = 4) : Pg b = some (Ahs b 0) := by
 have h := Bi2 b hb 4 0 Ba 0 (by omega) (by have := Ay; omega) (by simp)
 rw [Pg, Rh, if_neg (by rw [As, Ac]; simp; omega), Ql]; exact h
theorem Bc0 {b : List UInt8} (hb : b.length = 4) : 0 ≤ (Ahs b 0).1 ∧ (Ahs b 0).1 < 268435456 := by
 have := Beu b 0 0 (by simp)
 rw [hb] at this
 simpa using this
theorem Anr (s p : List UInt8) : Lb s p = some (decide (p.length ≤ s.length ∧ s.take p.length = p)) := by
 rw [Lb]
 by_cases h : p.length ≤ s.length
 ·rw [if_pos (by rw [Dm, Ac, Ac]; simp; omega), show Ac p = (p.length : Int) from rfl, Ls (by omega) (by omega), Aa, Jf, Aa, Int.toNat_natCast]
  congr 1
  rw [Bool.eq_iff_iff]; simp [h]
 ·rw [if_neg (by rw [Dm, Ac, Ac]; simp; omega)]
  simp [h]
def Amj (b : List UInt8) (n : Int) : Int × Int :=
 if 4000 < n then (0, 4) else if (b.length : Int) < n then (0, 24) else
 if b.getD 5 0 = 16 ∧ (b.take n.toNat).drop (n - 10).toNat ≠ [51, 68, 73] ++ part b 3 7 then (0, 12) else (n, 0)
def Avq (b : List UInt8) (r : Int) : Int × Int := Amj b (r + 10 + (if b.getD 5 0 = 16 then 10 else 0))
def Ajp (b : List UInt8) : Int × Int :=
 if ¬ (3 ≤ b.length ∧ b.take 3 = [73, 68, 51]) then (0, 6) else if b.length < 10 then (0, 24) else
 if (Ahs (part b 6 4) 0).2 ≠ 0 ∨ b.getD 4 0 ≠ 0 ∨ ¬ ((b.getD 5 0 = 0 ∧ 2 ≤ (b.getD 3 0).toNat ∧ (b.getD 3 0).toNat ≤ 4) ∨ (b.getD 5 0 = 16 ∧ b.getD 3 0 = 4)) then (0, 12) else
 Avq b (Ahs (part b 6 4) 0).1
theorem Am4 {b : List UInt8} {i : Nat} (h : i < b.length) : Aj b (i : Int) = some (b.getD i 0) := by
 rw [Dl h]; simp [List.getD_eq_getElem?_getD, h]
theorem Ln {b : List UInt8} (a w : Nat) (h : a + w ≤ b.length) : Cv b (a : Int) ((a + w : Nat) : Int) = some (part b a w) := by
 rw [Ad8 (by omega) (by omega) (by omega)]; rfl
theorem Blm (b : List UInt8) (r : Int) (h10 : 10 ≤ b.length) (h0 : 0 ≤ r) (h1 : r < 268435456) : Lz b r = some (Avq b r) := by
 have g5 : Aj b (5 : Int) = some (b.getD 5 0) := Am4 (i := 5) (by omega)
 have key : ∀ n : Int, 10 ≤ n → n < 268435500 → Le b n = some (Amj b n) := by
  intro n hn hn2
  rw [Le, Ab4, Amj]
  by_cases c1 : 4000 < n
  ·rw [if_pos (by rw [Bc]; simpa using c1), if_pos c1]
  ·rw [if_neg (by rw [Bc]; simpa using c1), if_neg c1]
   by_cases c2 : (b.length : Int) < n
   ·rw [if_pos (by rw [Af, Ac]; simpa using c2), if_pos c2]
   ·have e3 : Cv b (3 : Int) (10 : Int) = some (part b 3 7) := Ln 3 7 (by omega)
    rw [if_neg (by rw [Af, Ac]; simpa using c2), if_neg c2, g5, Aa]
    by_cases c3 : b.getD 5 0 = 16
    ·rw [if_pos (by rw [Ah9]; simpa using c3), Bt (by omega) (by omega), Ad8 (by omega) (by omega) (by omega), Aa, e3, Aa, Gp (by rw [Cx (by omega)]; simp), Aa]
     by_cases c4 : (b.take n.toNat).drop (n - 10).toNat = [51, 68, 73] ++ part b 3 7
     ·rw [if_neg (by simpa using c4), if_neg (by intro h; exact h.2 c4)]
     ·rw [if_pos (by simpa using c4), if_pos ⟨c3, c4⟩]
    ·rw [if_neg (by rw [Ah9]; simpa using c3), if_neg (fun h => c3 h.1)]
 rw [Lz, Sf, g5, Aa, Avq]
 by_cases c3 : b.getD 5 0 = 16
 ·rw [if_pos (by rw [Ah9]; simpa using c3), Ag (by rw [Ag] <;> omega) (by rw [Ag] <;> omega), Ag (by omega) (by omega), key _ (by omega) (by omega), if_pos c3, show 10 + r + 10 = r + 10 + 10 by omega]
 ·rw [if_neg (by rw [Ah9]; simpa using c3), Ag (by omega) (by omega), key _ (by omega) (by omega), if_neg c3, show 10 + r = r + 10 + 0 by omega]
theorem Bij (b : List UInt8) (hb : b.length < 4611686018427387904) : Rn b = some (Ajp b) := by
 rw [Rn, Tj, Ajp]
 by_cases h3 : 3 ≤ b.length
 ·rw [if_neg (by rw [Af, Ac]; simp; omega), Ls (by omega) (by omega), Aa]
  by_cases hp : b.take 3 = [73, 68, 51]
  ·rw [if_neg (by simpa using hp), if_neg (by simp [h3, hp]), Tl, To]
   by_cases h10 : b.length < 10
   ·rw [if_pos (by rw [Af, Ac]; simp; omega), if_pos h10]
   ·have e6 : Cv b (6 : Int) (10 : Int) = some (part b 6 4) := Ln 6 4 (by omega)
    have g3 : Aj b (3 : Int) = some (b.getD 3 0) := Am4 (i := 3) (by omega)
    have g4 : Aj b (4 : Int) = some (b.getD 4 0) := Am4 (i := 4) (by omega)
    have g5 : Aj b (5 : Int) = some (b.getD 5 0) := Am4 (i := 5) (by omega)
    obtain ⟨v1, v2⟩ := Bc0 (b := part b 6 4) (Cx (by omega))
    rw [if_neg (by rw [Af, Ac]; simp; omega), if_neg h10, e6, Aa, Be4 _ (Cx (by omega)), Aa]
    have ht := Blm b (Ahs (part b 6 4) 0).1 (by omega) v1 v2
    generalize Ahs (part b 6 4) 0 = v at *
    obtain ⟨v, e⟩ := v
    simp only at ht v1 v2 ⊢
    simp only [Aa, g3, g4, g5, ht]
    generalize b.getD 3 0 = x at *
    generalize b.getD 4 0 = y at *
    generalize b.getD 5 0 = z at *
    simp only [Bc9, Boj, Bj8, As]
    by_cases he : e = 0 <;> by_cases hy : y = 0 <;> by_cases hz : z = 0 <;> by_cases hz2 : z = 16 <;> by_cases hx : x = 4 <;> by_cases hx2 : x.toNat < 2 <;> by_cases hx4 : 4 < x.toNat <;> simp_all <;> (rw [if_neg (by omega), if_neg (by omega)])
  ·rw [if_pos (by simpa using hp), if_pos (by simp [hp])]
 ·rw [if_pos (by rw [Af, Ac]; simp; omega), if_pos (by simp [h3])]
theorem Au6 (b : List UInt8) (n : Int) (h10 : 10 ≤ b.length) (hn : 10 ≤ n) (hn2 : n < 268435500) : Vv b (b.getD 5 0) n = some (Amj b n) := by
 rw [Vv, Ajg]
 by_cases c1 : 4000 < n
 ·rw [if_pos (by rw [Bc]; simpa using c1), Amj, if_pos c1]
 ·rw [if_neg (by rw [Bc]; simpa using c1)]
  by_cases c2 : (b.length : Int) < n
  ·rw [if_pos (by rw [Af, Ac]; simpa using c2), Amj, if_neg c1, if_pos c2]
  ·have e3 : Cv b (3 : Int) (10 : Int) = some (part b 3 7) := Ln 3 7 (by omega)
   rw [if_neg (by rw [Af, Ac]; simpa using c2)]
   by_cases c3 : b.getD 5 0 = 16
   ·have hl : ((b.take n.toNat).drop (n - 10).toNat).length = 10 := by simp; omega
    have ht : Amj b n = if (b.take n.toNat).drop (n - 10).toNat ≠ [51, 68, 73] ++ part b 3 7 then (0, 12) else (n, 0) := by rw [Amj, if_neg c1, if_neg c2]; simp only [c3, true_and]
    rw [if_pos (by rw [Ah9]; simpa using c3), Bt (by omega) (by omega), Ad8 (by omega) (by omega) (by omega), Aa, ht]
    generalize (b.take n.toNat).drop (n - 10).toNat = f at *
    rw [Ls (by omega) (by omega), Aa, Aa1 (by omega) (by omega), Aa, e3, Aa, Jf, Aa]
    have hf : f = f.take 3 ++ f.drop 3 := (List.take_append_drop 3 f).symm
    by_cases c4 : f = [51, 68, 73] ++ part b 3 7
    ·subst c4
     simp
    ·by_cases c5 : f.take 3 = [51, 68, 73]
     ·have : f.drop 3 ≠ part b 3 7 := fun h => c4 (by rw [hf, c5, h])
      simp only [List.cons_append, List.nil_append] at c4
      simp [c4, c5, this]
     ·simp only [List.cons_append, List.nil_append] at c4
      simp [c4, c5]
   ·rw [if_neg (by rw [Ah9]; simpa using c3), Amj, if_neg c1, if_neg c2, if_neg (fun h => c3 h.1)]
theorem Bh5 (b : List UInt8) (r : Int) (h10 : 10 ≤ b.length) (h0 : 0 ≤ r) (h1 : r < 268435456) : Vu b r (b.getD 5 0) = some (Avq b r) := by
 rw [Vu, Acs, Avq]
 by_cases c3 : b.getD 5 0 = 16
 ·rw [if_pos (by rw [Ah9]; simpa using c3), Ag (by rw [Ag] <;> omega) (by rw [Ag] <;> omega), Ag (by omega) (by omega), Au6 b _ h10 (by omega) (by omega), if_pos c3]
 ·rw [if_neg (by rw [Ah9]; simpa using c3), Ag (by omega) (by omega), Au6 b _ h10 (by omega) (by omega), if_neg c3]; simp
theorem Bgj (b : List UInt8) (hb : b.length < 4611686018427387904) : Adg b = some (Ajp b) := by
 rw [Adg, Vt, Anr, Aa]
 by_cases hp : 3 ≤ b.length ∧ b.take 3 = [73, 68, 51]
 ·rw [if_neg (by simpa using hp)]
  by_cases h10 : b.length < 10
  ·rw [if_pos (by rw [Af, Ac]; simp; omega), Ajp, if_neg (fun h => h hp), if_pos h10]
  ·have e6 : Cv b (6 : Int) (10 : Int) = some (part b 6 4) := Ln 6 4 (by omega)
   have g3 : Aj b (3 : Int) = some (b.getD 3 0) := Am4 (i := 3) (by omega)
   have g4 : Aj b (4 : Int) = some (b.getD 4 0) := Am4 (i := 4) (by omega)
   have g5 : Aj b (5 : Int) = some (b.getD 5 0) := Am4 (i := 5) (by omega)
   obtain ⟨v1, v2⟩ := Bc0 (b := part b 6 4) (Cx (by omega))
   have ht := Bh5 b (Ahs (part b 6 4) 0).1 (by omega) v1 v2
   rw [if_neg (by rw [Af, Ac]; simp; omega), g3, Aa, g5, Aa, Ack, Acu, e6, Aa, Bcy _ (Cx (by omega)), Aa, Ajp, if_neg (fun h => h hp), if_neg h10]
   generalize Ahs (part b 6 4) 0 = v at *
   obtain ⟨v, e⟩ := v
   simp only at ht v1 v2 ⊢
   simp only [Aa, g4, Aco, Aci]
   generalize b.getD 3 0 = x at *
   generalize b.getD 4 0 = y at *
   generalize b.getD 5 0 = z at *
   simp only [Bc9, Boe, Ah9, Bj7, As]
   have e2 : (2 : UInt8).toNat = 2 := rfl
   have e4 : (4 : UInt8).toNat = 4 := rfl
   by_cases he : e = 0 <;> by_cases hy : y = 0 <;> by_cases hz : z = 0 <;> by_cases hz2 : z = 16 <;> by_cases hx : x = 4 <;> by_cases hx2 : 2 ≤ x.toNat <;> by_cases hx4 : x.toNat ≤ 4 <;> simp_all
 ·rw [if_pos (by rw [Bool.not_eq_true', decide_eq_false_iff_not]; exact hp), Ajp, if_pos hp]
theorem Bhv {b : List UInt8} {n : Int} (h : Ajp b = (n, 0)) : 10 ≤ n ∧ n ≤ b.length ∧ n ≤ 4000 := by
 unfold Ajp at h
 split at h; · simp at h
 split at h; · simp at h
 split at h; · simp at h
 rename_i h10 _
 obtain ⟨v1, v2⟩ := Bc0 (b := part b 6 4) (Cx (by omega))
 unfold Avq at h
 generalize hm : (Ahs (part b 6 4) 0).1 + 10 + (if b.getD 5 0 = 16 then 10 else 0) = m at h
 unfold Amj at h
 split at h; · simp at h
 split at h; · simp at h
 split at h; · simp at h
 simp only [Prod.mk.injEq, and_true] at h
 subst h
 refine ⟨?_, by omega, by omega⟩
 rw [← hm]
 split <;> omega
end Go.Pl
set_option linter.unusedVariables false
set_option linter.unusedSimpArgs false
namespace Go.Pl
open Go Go.Lv
def APE : List UInt8 := [65, 80, 69, 84, 65, 71, 69, 88]
def Afk (n m fl : Nat) : List UInt8 := APE ++ leB 2000 4 ++ leB (n + 32) 4 ++ leB m 4 ++ leB fl 4 ++ List.replicate 8 0
theorem Af3 {n : Nat} (h : n < 18446744073709551616) : (UInt64.ofNat n).toNat = n := by rw [UInt64.toNat_ofNat', Nat.mod_eq_of_lt h]
theorem Alk (n m : Int) (fl : UInt64) (c : UInt64) (i q : Nat) (acc : List UInt8) (hi : i < 6) (hc : Aj ([(2000 : UInt64), (Ad (Ae n (32 : Int)) : UInt64), (Ad m : UInt64), fl, (0 : UInt64), (0 : UInt64)] : List UInt64) (i : Int) = some c) (h : c.toNat < 4294967296) (ha : acc.length ≤ 1000000) :
  Wi n m fl (q + 1) (i : Int) acc = Wi n m fl q ((i + 1 : Nat) : Int) (acc ++ leB c.toNat 4) := by
 have hb := Ayk c 4 (by omega) (by omega) (by simpa using h)
 rw [Wi, Aie, if_pos (by rw [Af, Ac]; simp; omega), hc, Aa, Aa, show ((4 : Int)) = ((4 : Nat) : Int) from rfl, hb, Aa]
 simp only
 rw [Gp (by rw [Mx]; omega), Aa, Ag (by omega) (by omega)]; rfl
theorem Ayv (n m : Nat) (fl : UInt64) (hn : n ≤ 3000) (hm : m ≤ 1000) (hf : fl.toNat < 4294967296) : Anz (n : Int) (m : Int) fl = some (Afk n m fl.toNat) := by
 have e1 : (Ad (Ae (n : Int) (32 : Int)) : UInt64).toNat = n + 32 := by rw [Ag (by omega) (by omega), show (n : Int) + 32 = ((n + 32 : Nat) : Int) by omega, Xa, Af3 (by omega)]
 have e2 : (Ad (m : Int) : UInt64).toNat = m := by rw [Xa, Af3 (by omega)]
 have hF : Ba = (Ba - 7) + 1 + 1 + 1 + 1 + 1 + 1 + 1 := by have := Ay; omega
 rw [Anz, Am5, Amu, hF]
 rw [show ((0 : Int)) = ((0 : Nat) : Int) from rfl, Alk n m fl 2000 0 _ _ (by omega) rfl (by decide) (by simp), Alk n m fl _ 1 _ _ (by omega) rfl (by rw [e1]; omega) (by simp [Mx]), Alk n m fl _ 2 _ _ (by omega) rfl (by rw [e2]; omega) (by simp [Mx]),
  Alk n m fl fl 3 _ _ (by omega) rfl hf (by simp [Mx]), Alk n m fl 0 4 _ _ (by omega) rfl (by decide) (by simp [Mx]), Alk n m fl 0 5 _ _ (by omega) rfl (by decide) (by simp [Mx]), e1, e2]
 rw [Wi, Aie, if_neg (by rw [Af, Ac]; simp), Am6, Ati, Afk]
 have z : leB (0 : UInt64).toNat 4 ++ leB (0 : UInt64).toNat 4 = List.replicate 8 0 := by decide
 have z2 : leB (2000 : UInt64).toNat 4 = leB 2000 4 := rfl
 rw [List.append_assoc _ (leB (0 : UInt64).toNat 4), z, z2]; rfl
theorem Bd8 (n m : Nat) (fl : UInt64) (hn : n ≤ 3000) (hm : m ≤ 1000) (hf : fl.toNat < 4294967296) : Jl (n : Int) (m : Int) fl = some (Afk n m fl.toNat) := by
 have e1 : (Ad (Ae (n : Int) (32 : Int)) : UInt64).toNat = n + 32 := by rw [Ag (by omega) (by omega), show (n : Int) + 32 = ((n + 32 : Nat) : Int) by omega, Xa, Af3 (by omega)]
 have e2 : (Ad (m : Int) : UInt64).toNat = m := by rw [Xa, Af3 (by omega)]
 have w : ∀ c : UInt64, Cs c 4 = some (leB c.toNat 4) := fun c => Ar1 c 4 (by omega)
 have z2 : leB (2000 : UInt64).toNat 4 = leB 2000 4 := rfl
 rw [Jl]
 simp only [w, e1, e2, Aa]
 rw [Gp (by simp [Mx]), Aa, Gp (by simp [Mx]), Aa, Gp (by simp [Mx]), Aa, Gp (by simp [Mx]), Aa, Ar0 (by omega) (by omega), Aa, Gp (by simp [Mx]), Aa, z2]; rfl
theorem Adu {b : List UInt8} {a w k : Nat} (h : a + w ≤ k) : part (b.take k) a w = part b a w := by rw [part, part, List.take_take, Nat.min_eq_left h]
def Agu (b : List UInt8) : Bool := decide (Eb (part b 12 4) < 32 ∨ 3032 < Eb (part b 12 4) ∨ 1000 < Eb (part b 16 4))
theorem Bjn (b : List UInt8) (h : 20 ≤ b.length) : (((Dg (leU (part b 12 4)) (32 : UInt64)) || (Hq (leU (part b 12 4)) (3032 : UInt64))) || (Hq (leU (part b 16 4)) (1000 : UInt64))) = Agu b := by
 rw [Arf, Afp, Afp, Af1 (by rw [Cx (by omega)]; omega), Af1 (by rw [Cx (by omega)]; omega), Agu]
 show ((decide (Eb (part b 12 4) < 32) || decide (3032 < Eb (part b 12 4))) || decide (1000 < Eb (part b 16 4))) = _
 simp [Bool.or_assoc]
theorem Axn (b : List UInt8) (h : 20 ≤ b.length) (hb : Agu b = false) : Am (Ad (leU (part b 12 4)) : Int) (32 : Int) = ((Eb (part b 12 4) - 32 : Nat) : Int) ∧ (Ad (leU (part b 16 4)) : Int) = ((Eb (part b 16 4) : Nat) : Int) ∧ Eb (part b 12 4) - 32 ≤ 3000 ∧ Eb (part b 16 4) ≤ 1000 := by
 simp only [Agu, decide_eq_false_iff_not] at hb
 refine ⟨?_, Aa8 (by rw [Cx (by omega)]; omega), by omega, by omega⟩
 rw [Aa8 (by rw [Cx (by omega)]; omega), Bt (by omega) (by omega)]; omega
theorem Bb2 (b : List UInt8) (fl : UInt64) (h : 20 ≤ b.length) (hl : b.length < 4611686018427387904) (hf : fl.toNat < 4294967296) :
  Alf b fl = some (if Agu b = true then (0, 0, false) else (((Eb (part b 12 4) - 32 : Nat) : Int), ((Eb (part b 16 4) : Nat) : Int), b == Afk (Eb (part b 12 4) - 32) (Eb (part b 16 4)) fl.toNat)) := by
 have a1 : Ahy b 12 4 = some (leU (part b 12 4), 0) := Awa b 12 4 (by omega) (by omega) (by omega) hl
 have a2 : Ahy b 16 4 = some (leU (part b 16 4), 0) := Awa b 16 4 (by omega) (by omega) (by omega) hl
 rw [Alf, a1, Aa]
 simp only
 rw [a2, Aa]
 simp only
 rw [Bjn b h]
 cases hb : Agu b with
 | true => rfl
 | false =>
  obtain ⟨i1, i2, i3, i4⟩ := Axn b h hb
  rw [i1, i2, Ayv _ _ _ i3 i4 hf]
  rfl
theorem Bh6 (b : List UInt8) (h : 20 ≤ b.length) (hl : b.length < 4611686018427387904) :
  Rz b = some (if Agu b = true then (0, 0, false) else (((Eb (part b 12 4) - 32 : Nat) : Int), ((Eb (part b 16 4) : Nat) : Int), true)) := by
 have a1 : Cv b 12 16 = some (part b 12 4) := Ln 12 4 (by omega)
 have a2 : Cv b 16 20 = some (part b 16 4) := Ln 16 4 (by omega)
 rw [Rz, a1, Aa, Az0 _ (by rw [Cx (by omega)]; omega), Aa, a2, Aa, Az0 _ (by rw [Cx (by omega)]; omega), Aa, Bjn b h]
 cases hb : Agu b with
 | true => rfl
 | false =>
  obtain ⟨i1, i2, i3, i4⟩ := Axn b h hb
  rw [i1, i2]; rfl
def Pv (b : List UInt8) : Int × Int :=
 if ¬ (8 ≤ b.length ∧ b.take 8 = APE) then (0, 6) else if b.length < 32 then (0, 24) else
 if Agu b = true ∨ b.take 32 ≠ Afk (Eb (part b 12 4) - 32) (Eb (part b 16 4)) 2684354560 then (0, 12) else
 if b.length < Eb (part b 12 4) + 32 then (0, 24) else
 if (b.take (Eb (part b 12 4) + 32)).drop (Eb (part b 12 4)) ≠ Afk (Eb (part b 12 4) - 32) (Eb (part b 16 4)) 2147483648 then (0, 12) else (((Eb (part b 12 4) + 32 : Nat) : Int), 0)
theorem Ay7 (b : List UInt8) : Agu (b.take 32) = Agu b := by rw [Agu, Agu, Adu (by omega), Adu (by omega)]
section
variable {b : List UInt8}
theorem fa1 (h : ¬ (8 ≤ b.length ∧ b.take 8 = APE)) : Pv b = (0, 6) := by rw [Pv, if_pos h]
theorem fa2 (h : 8 ≤ b.length ∧ b.take 8 = APE) (h2 : b.length < 32) : Pv b = (0, 24) := by rw [Pv, if_neg (fun h' => h' h), if_pos h2]
variable (h : 8 ≤ b.length ∧ b.take 8 = APE) (h2 : ¬ b.length < 32)
include h h2
theorem fa3 (h3 : Agu b = true) : Pv b = (0, 12) := by rw [Pv, if_neg (fun h' => h' h), if_neg h2, if_pos (.inl h3)]
theorem fa4 (h4 : b.take 32 ≠ Afk (Eb (part b 12 4) - 32) (Eb (part b 16 4)) 2684354560) : Pv b = (0, 12) := by rw [Pv, if_neg (fun h' => h' h), if_neg h2, if_pos (.inr h4)]
variable (h3 : Agu b = false) (h4 : b.take 32 = Afk (Eb (part b 12 4) - 32) (Eb (part b 16 4)) 2684354560)
include h3 h4
theorem fa5 (h5 : b.length < Eb (part b 12 4) + 32) : Pv b = (0, 24) := by
 rw [Pv, if_neg (fun h' => h' h), if_neg h2, if_neg (fun h' => h'.elim (fun e => by rw [h3] at e; cases e) fun e => e h4), if_pos h5]
theorem fa6 (h5 : ¬ b.length < Eb (part b 12 4) + 32) (h6 : (b.take (Eb (part b 12 4) + 32)).drop (Eb (part b 12 4)) ≠ Afk (Eb (part b 12 4) - 32) (Eb (part b 16 4)) 2147483648) : Pv b = (0, 12) := by
 rw [Pv, if_neg (fun h' => h' h), if_neg h2, if_neg (fun h' => h'.elim (fun e => by rw [h3] at e; cases e) fun e => e h4), if_neg h5, if_pos h6]
theorem fa7 (h5 : ¬ b.length < Eb (part b 12 4) + 32) (h6 : (b.take (Eb (part b 12 4) + 32)).drop (Eb (part b 12 4)) = Afk (Eb (part b 12 4) - 32) (Eb (part b 16 4)) 2147483648) : Pv b = (((Eb (part b 12 4) + 32 : Nat) : Int), 0) := by
 rw [Pv, if_neg (fun h' => h' h), if_neg h2, if_neg (fun h' => h'.elim (fun e => by rw [h3] at e; cases e) fun e => e h4), if_neg h5, if_neg (fun h' => h' h6)]
end
theorem Bch (b : List UInt8) (hl : b.length < 4611686018427387904) : Alp b = some (Pv b) := by
 rw [Alp, Anr, Aa]
 by_cases hp : 8 ≤ b.length ∧ b.take 8 = APE
 ·rw [if_neg (by simpa [APE] using hp)]
  by_cases h32 : b.length < 32
  ·rw [if_pos (by rw [Af, Ac]; simp; omega), fa2 hp h32]
  ·have t := Bb2 (b.take 32) 2684354560 (by simp; omega) (by simp; omega) (by decide)
   rw [Ay7, Adu (by omega), Adu (by omega)] at t
   rw [if_neg (by rw [Af, Ac]; simp; omega), Ls (by omega) (by omega), Aa, show (32 : Int).toNat = 32 from rfl, t, Aa]
   cases hb : Agu b with
   | true => rw [fa3 hp h32 hb]; simp
   | false =>
    obtain ⟨i1, i2, i3, i4⟩ := Axn b (by omega) hb
    have i5 : 32 ≤ Eb (part b 12 4) := by simp only [Agu, decide_eq_false_iff_not] at hb; omega
    simp only [Bool.false_eq_true, if_false, false_or]
    by_cases c1 : b.take 32 = Afk (Eb (part b 12 4) - 32) (Eb (part b 16 4)) 2684354560
    ·have c1' : b.take 32 = Afk (Eb (part b 12 4) - 32) (Eb (part b 16 4)) (2684354560 : UInt64).toNat := c1
     rw [if_neg (by simpa using c1'), Ag (by omega) (by omega)]
     have e1 : ((Eb (part b 12 4) - 32 : Nat) : Int) + 64 = ((Eb (part b 12 4) + 32 : Nat) : Int) := by omega
     rw [e1]
     by_cases c2 : b.length < Eb (part b 12 4) + 32
     ·rw [if_pos (by rw [Af, Ac]; simp; omega), fa5 hp h32 hb c1 c2]
     ·rw [if_neg (by rw [Af, Ac]; simp; omega), Bt (by omega) (by omega), Ad8 (by omega) (by omega) (by omega), Aa, Ayv _ _ _ i3 i4 (by decide), Aa, Jf, Aa]
      rw [show (((Eb (part b 12 4) + 32 : Nat) : Int)).toNat = Eb (part b 12 4) + 32 by omega, show (((Eb (part b 12 4) + 32 : Nat) : Int) - 32).toNat = Eb (part b 12 4) by omega]
      by_cases c3 : (b.take (Eb (part b 12 4) + 32)).drop (Eb (part b 12 4)) = Afk (Eb (part b 12 4) - 32) (Eb (part b 16 4)) 2147483648
      ·have c3' : (b.take (Eb (part b 12 4) + 32)).drop (Eb (part b 12 4)) = Afk (Eb (part b 12 4) - 32) (Eb (part b 16 4)) (2147483648 : UInt64).toNat := c3
       rw [if_neg (by simpa using c3'), fa7 hp h32 hb c1 c2 c3]
      ·have c3' : ¬ (b.take (Eb (part b 12 4) + 32)).drop (Eb (part b 12 4)) = Afk (Eb (part b 12 4) - 32) (Eb (part b 16 4)) (2147483648 : UInt64).toNat := c3
       rw [if_pos (by simpa using c3'), fa6 hp h32 hb c1 c2 c3]
    ·have c1' : ¬ b.take 32 = Afk (Eb (part b 12 4) - 32) (Eb (part b 16 4)) (2684354560 : UInt64).toNat := c1
     rw [if_pos (by simpa using c1'), fa4 hp h32 c1]
 ·rw [if_pos (by rw [Bool.not_eq_true', decide_eq_false_iff_not]; exact hp), fa1 hp]
theorem Bg3 (b : List UInt8) (hl : b.length < 4611686018427387904) : Ox b = some (Pv b) := by
 rw [Ox, Ri]
 by_cases h8 : 8 ≤ b.length
 ·rw [if_neg (by rw [Af, Ac]; simp; omega), Ls (by omega) (by omega), Aa, show (8 : Int).toNat = 8 from rfl]
  by_cases ha : b.take 8 = APE
  ·have hp := And.intro h8 ha
   rw [if_neg (by simpa [APE] using ha), Rg, Rk]
   by_cases h32 : b.length < 32
   ·rw [if_pos (by rw [Af, Ac]; simp; omega), fa2 hp h32]
   ·have t := Bh6 (b.take 32) (by simp; omega) (by simp; omega)
    rw [Ay7, Adu (by omega), Adu (by omega)] at t
    rw [if_neg (by rw [Af, Ac]; simp; omega), Ls (by omega) (by omega), Aa, show (32 : Int).toNat = 32 from rfl, t, Aa]
    cases hb : Agu b with
    | true => rw [fa3 hp h32 hb]; simp
    | false =>
     obtain ⟨i1, i2, i3, i4⟩ := Axn b (by omega) hb
     have i5 : 32 ≤ Eb (part b 12 4) := by simp only [Agu, decide_eq_false_iff_not] at hb; omega
     simp only [Bool.false_eq_true, if_false, false_or, Aa, Bool.not_true]
     rw [Xz, Bd8 _ _ _ i3 i4 (by decide), Aa, Aa]
     by_cases c1 : b.take 32 = Afk (Eb (part b 12 4) - 32) (Eb (part b 16 4)) 2684354560
     ·have c1' : b.take 32 = Afk (Eb (part b 12 4) - 32) (Eb (part b 16 4)) (2684354560 : UInt64).toNat := c1
      rw [if_neg (by simpa using c1'), Qz, Aaa, Ag (by omega) (by omega)]
      have e1 : 64 + ((Eb (part b 12 4) - 32 : Nat) : Int) = ((Eb (part b 12 4) + 32 : Nat) : Int) := by omega
      rw [e1]
      by_cases c2 : b.length < Eb (part b 12 4) + 32
      ·rw [if_pos (by rw [Af, Ac]; simp; omega), fa5 hp h32 hb c1 c2]
      ·rw [if_neg (by rw [Af, Ac]; simp; omega), Bt (by omega) (by omega), Ad8 (by omega) (by omega) (by omega), Aa, Za, if_pos rfl, Bd8 _ _ _ i3 i4 (by decide), Aa, Aa]
       rw [show (((Eb (part b 12 4) + 32 : Nat) : Int)).toNat = Eb (part b 12 4) + 32 by omega, show (((Eb (part b 12 4) + 32 : Nat) : Int) - 32).toNat = Eb (part b 12 4) by omega]
       by_cases c3 : (b.take (Eb (part b 12 4) + 32)).drop (Eb (part b 12 4)) = Afk (Eb (part b 12 4) - 32) (Eb (part b 16 4)) 2147483648
       ·have c3' : (b.take (Eb (part b 12 4) + 32)).drop (Eb (part b 12 4)) = Afk (Eb (part b 12 4) - 32) (Eb (part b 16 4)) (2147483648 : UInt64).toNat := c3
        rw [if_neg (by simpa using c3'), fa7 hp h32 hb c1 c2 c3]
       ·have c3' : ¬ (b.take (Eb (part b 12 4) + 32)).drop (Eb (part b 12 4)) = Afk (Eb (part b 12 4) - 32) (Eb (part b 16 4)) (2147483648 : UInt64).toNat := c3
        rw [if_pos (by simpa using c3'), fa6 hp h32 hb c1 c2 c3]
     ·have c1' : ¬ b.take 32 = Afk (Eb (part b 12 4) - 32) (Eb (part b 16 4)) (2684354560 : UInt64).toNat := c1
      rw [if_pos (by simpa using c1'), fa4 hp h32 c1]
  ·rw [if_pos (by simpa [APE] using ha), fa1 (fun h => ha h.2)]
 ·rw [if_pos (by rw [Af, Ac]; simp; omega), fa1 (fun h => h8 h.1)]
theorem Bgd {b : List UInt8} {n : Int} (h : Pv b = (n, 0)) : 64 ≤ n ∧ n ≤ b.length := by
 unfold Pv at h
 split at h; · simp at h
 split at h; · simp at h
 split at h; · simp at h
 rename_i hb
 split at h; · simp at h
 split at h; · simp at h
 simp only [Prod.mk.injEq, and_true] at h
 have hb' : ¬ Agu b = true := fun e => hb (.inl e)
 simp only [Agu, decide_eq_true_eq] at hb'
 omega
end Go.Pl
set_option linter.unusedVariables false
set_option linter.unusedSimpArgs false
namespace Go.Pl
open Go Go.Lv
def Ed (b : List UInt8) : Int × Int := if (Ajp b).2 ≠ 6 then Ajp b else Pv b
theorem size_eq (b : List UInt8) (hl : b.length < 4611686018427387904) : Sn b = some (Ed b) := by
 rw [Sn, Bgj b hl, Aa, Bch b hl]
 by_cases h : (Ajp b).2 = 6
 ·simp [Ed, h, As]
 ·simp [Ed, h, As]
theorem Arr {b : List UInt8} {n : Int} (h : Ed b = (n, 0)) : 10 ≤ n ∧ n ≤ b.length := by
 unfold Ed at h
 split at h
 ·have := Bhv h; omega
 ·have := Bgd h; omega
def Ct (b : List UInt8) : Nat → Nat → List Int × Int
 | 0, _ => ([], 6)
 | j + 1, p => if (Ed (b.drop p)).2 = 6 then ([], 0) else if (Ed (b.drop p)).2 ≠ 0 then ([], (Ed (b.drop p)).2) else
  if 4000 < (p : Int) + (Ed (b.drop p)).1 then ([], 4) else
  if (Ct b j (p + (Ed (b.drop p)).1.toNat)).2 = 0 then ((Ed (b.drop p)).1 :: (Ct b j (p + (Ed (b.drop p)).1.toNat)).1, 0) else ([], (Ct b j (p + (Ed (b.drop p)).1.toNat)).2)
theorem Aph (b : List UInt8) : ∀ (j p : Nat), p ≤ b.length → p ≤ 4000 → (Ct b j p).2 = 0 → (∀ x ∈ (Ct b j p).1, 10 ≤ x) ∧ (p : Int) + (Ct b j p).1.sum ≤ b.length ∧ (p : Int) + (Ct b j p).1.sum ≤ 4000
 | 0, p, _, _, h => by simp [Ct] at h
 | j + 1, p, hp, hq, h => by
  rw [Ct] at h ⊢
  split at h
  ·rename_i h6; rw [if_pos h6]; simp; omega
  ·rename_i h6
   split at h
   ·rename_i h0; exact absurd h h0
   ·rename_i h0
    rw [if_neg h6, if_neg h0]
    have hz : Ed (b.drop p) = ((Ed (b.drop p)).1, 0) := by rw [Prod.ext_iff]; exact ⟨rfl, Classical.not_not.1 h0⟩
    have hs := Arr hz
    rw [List.length_drop] at hs
    split at h
    ·simp at h
    ·rename_i h4
     rw [if_neg h4]
     split at h
     ·rename_i h00
      rw [if_pos h00]
      obtain ⟨i1, i2, i3⟩ := Aph b j _ (by omega) (by omega) h00
      refine ⟨fun x hx => ?_, ?_, ?_⟩
      ·rcases List.mem_cons.1 hx with rfl | hx
       ·exact hs.1
       ·exact i1 x hx
      ·simp only [List.sum_cons]; omega
      ·simp only [List.sum_cons]; omega
     ·rename_i h00; exact absurd h h00
def Bga (b : List UInt8) (j p : Nat) : Int × Int := if (Ct b j p).2 = 0 then ((p : Int) + (Ct b j p).1.sum, 0) else (0, (Ct b j p).2)
theorem Ari (b : List UInt8) (hl : b.length < 4611686018427387904) : ∀ (j p q : Nat), p ≤ b.length → p ≤ 4000 → b.length - p < j → j ≤ q → Qj b q (p : Int) = some (Bga b j p)
 | 0, p, q, _, _, h, _ => by omega
 | j + 1, p, q, hp, hp4, hj, hq => by
  obtain ⟨q, rfl⟩ : ∃ k, q = k + 1 := ⟨q - 1, by omega⟩
  rw [Qj, Aa1 (by omega) (by omega), Aa, Int.toNat_natCast, size_eq _ (by simp; omega), Aa, Cd, Cd, As, Bga]
  by_cases h6 : (Ed (b.drop p)).2 = 6
  ·rw [if_pos (by simpa using h6)]
   have : Ct b (j + 1) p = ([], 0) := by rw [Ct, if_pos h6]
   rw [this]; simp
  ·rw [if_neg (by simpa using h6)]
   by_cases h0 : (Ed (b.drop p)).2 = 0
   ·have hz : Ed (b.drop p) = ((Ed (b.drop p)).1, 0) := by rw [Prod.ext_iff]; exact ⟨rfl, h0⟩
    have hs := Arr hz
    rw [List.length_drop] at hs
    rw [Ag (by omega) (by omega), Bc]
    by_cases h4 : 4000 < (p : Int) + (Ed (b.drop p)).1
    ·rw [if_pos (by simp [h0]; omega)]
     have : Ct b (j + 1) p = ([], 4) := by rw [Ct, if_neg h6, if_neg (fun h => h h0), if_pos h4]
     rw [this]; simp
    ·rw [if_neg (by simp [h0]; omega), if_neg (by simpa using h0)]
     have ih := Ari b hl j (p + (Ed (b.drop p)).1.toNat) q (by omega) (by omega) (by omega) (by omega)
     rw [show (p : Int) + (Ed (b.drop p)).1 = ((p + (Ed (b.drop p)).1.toNat : Nat) : Int) by omega, ih, Bga]
     have : Ct b (j + 1) p = if (Ct b j (p + (Ed (b.drop p)).1.toNat)).2 = 0 then ((Ed (b.drop p)).1 :: (Ct b j (p + (Ed (b.drop p)).1.toNat)).1, 0) else ([], (Ct b j (p + (Ed (b.drop p)).1.toNat)).2) := by
      rw [Ct, if_neg h6, if_neg (fun h => h h0), if_neg h4]
     rw [this]
     by_cases hr : (Ct b j (p + (Ed (b.drop p)).1.toNat)).2 = 0
     ·simp only [hr, if_true, List.sum_cons]; congr 2; omega
     ·simp only [hr, if_false]
   ·rw [if_neg (by simp [h0]), if_pos (by simpa using h0)]
    have : Ct b (j + 1) p = ([], (Ed (b.drop p)).2) := by rw [Ct, if_neg h6, if_pos h0]
    rw [this]; simp [h0]
def Bh9 (b : List UInt8) (j p : Nat) (xs : List Int) : List Int × Int := if (Ct b j p).2 = 0 then (xs ++ (Ct b j p).1, 0) else ([], (Ct b j p).2)
theorem Bhs (bk : Int → List Int → Option (List Int × Int)) (b : List UInt8) (p : Nat) (hp : p ≤ b.length) (xs : List Int) (hx : xs.length ≤ 4000) (hl : b.length < 4611686018427387904) : Kf (Gw bk b) b (p : Int) xs = Gw bk b (p : Int) xs (Ed (b.drop p)).1 (Ed (b.drop p)).2 := by
 have hf := Bg3 (b.drop p) (by simp; omega)
 rw [Kf, Aa1 (by omega) (by omega), Aa, Int.toNat_natCast, Bij _ (by simp; omega), Aa]
 by_cases h : (Ajp (b.drop p)).2 = 6
 ·simp [Ed, h, Cd, hf]
 ·simp [Ed, h, Cd]
theorem Au5 (b : List UInt8) (hl : b.length < 4611686018427387904) : ∀ (j p q : Nat) (xs : List Int), p ≤ b.length → p ≤ 4000 → b.length - p < j → j ≤ q → xs.length ≤ p → Gz b q (p : Int) xs = some (Bh9 b j p xs)
 | 0, p, q, _, _, _, h, _, _ => by omega
 | j + 1, p, q, xs, hp, hp4, hj, hq, hx => by
  obtain ⟨q, rfl⟩ : ∃ k, q = k + 1 := ⟨q - 1, by omega⟩
  rw [Gz, Bhs _ b p hp xs (by omega) hl, Gw, Aae, Cd, As, Bh9]
  by_cases h6 : (Ed (b.drop p)).2 = 6
  ·rw [if_pos (by simpa using h6)]
   have : Ct b (j + 1) p = ([], 0) := by rw [Ct, if_pos h6]
   rw [this]; simp
  ·rw [if_neg (by simpa using h6)]
   by_cases h0 : (Ed (b.drop p)).2 = 0
   ·have hz : Ed (b.drop p) = ((Ed (b.drop p)).1, 0) := by rw [Prod.ext_iff]; exact ⟨rfl, h0⟩
    have hs := Arr hz
    rw [List.length_drop] at hs
    rw [if_neg (by simpa using h0), Ag (by omega) (by omega), Bc]
    by_cases h4 : 4000 < (p : Int) + (Ed (b.drop p)).1
    ·rw [if_pos (by simp; omega)]
     have : Ct b (j + 1) p = ([], 4) := by rw [Ct, if_neg h6, if_neg (fun h => h h0), if_pos h4]
     rw [this]; simp
    ·rw [if_neg (by simp; omega), Gp (by simp; omega), Aa]
     have ih := Au5 b hl j (p + (Ed (b.drop p)).1.toNat) q (xs ++ [(Ed (b.drop p)).1]) (by omega) (by omega) (by omega) (by omega) (by simp; omega)
     rw [show (p : Int) + (Ed (b.drop p)).1 = ((p + (Ed (b.drop p)).1.toNat : Nat) : Int) by omega, ih, Bh9]
     have : Ct b (j + 1) p = if (Ct b j (p + (Ed (b.drop p)).1.toNat)).2 = 0 then ((Ed (b.drop p)).1 :: (Ct b j (p + (Ed (b.drop p)).1.toNat)).1, 0) else ([], (Ct b j (p + (Ed (b.drop p)).1.toNat)).2) := by
      rw [Ct, if_neg h6, if_neg (fun h => h h0), if_neg h4]
     rw [this]
     by_cases hr : (Ct b j (p + (Ed (b.drop p)).1.toNat)).2 = 0
     ·simp only [hr, if_true]; simp
     ·simp only [hr, if_false]
   ·rw [if_pos (by simpa using h0)]
    have : Ct b (j + 1) p = ([], (Ed (b.drop p)).2) := by rw [Ct, if_neg h6, if_pos h0]
    rw [this]; simp [h0]
theorem Aq1 : ∀ {l : List Int}, (∀ x ∈ l, 10 ≤ x) → 0 ≤ l.sum ∧ (l.length : Int) ≤ l.sum
 | [], _ => by simp
 | x :: l, h => by
  have h1 := h x List.mem_cons_self
  have h2 := Aq1 (l := l) fun y hy => h y (List.mem_cons_of_mem _ hy)
  simp only [List.sum_cons, List.length_cons]; omega
theorem Asq (r : Int) (l : List Int) (hl : l.length ≤ 4000) (hx : ∀ x ∈ l, 10 ≤ x) : ∀ (j i q : Nat) (n : Int), i + j = l.length → j < q → 0 ≤ n → n + (l.drop i).sum ≤ 4000 → Fe r l q n (i : Int) = some (n + (l.drop i).sum, r)
 | 0, i, q + 1, n, hi, _, _, _ => by
  rw [Fe, Ka, if_neg (by rw [Af, Ac]; simp; omega), show i = l.length by omega, List.drop_length]
  simp [Ra, Zw]
 | j + 1, i, q + 1, n, hi, hq, hn, hs => by
  have hlt : i < l.length := by omega
  rw [drop_cons hlt, List.sum_cons] at hs ⊢
  have h1 := hx l[i] (List.getElem_mem hlt)
  have h2 := Aq1 (l := l.drop (i + 1)) fun y hy => hx y (List.mem_of_mem_drop hy)
  rw [Fe, Ka, if_pos (by rw [Af, Ac]; simp; omega), Dl hlt, Aa, Aa, Ag (by omega) (by omega), Ag (by omega) (by omega)]
  have ih := Asq r l hl hx j (i + 1) q (n + l[i]) (by omega) (by omega) (by omega) (by omega)
  rw [show ((i : Int) + 1) = ((i + 1 : Nat) : Int) by omega, ih]
  congr 2; omega
def frontS (b : List UInt8) : Int × Int := Bga b (b.length + 1) 0
theorem Ar7 (b : List UInt8) (hl : b.length < 4611686018427387904) : Wv b = some (frontS b) := by
 have := Ari b hl (b.length + 1) 0 Ba (by omega) (by omega) (by omega) (by have := Ay; omega)
 exact this
theorem Axt (b : List UInt8) (hl : b.length < 4611686018427387904) : Oy b = some (frontS b) := by
 have h := Au5 b hl (b.length + 1) 0 Ba [] (by omega) (by omega) (by omega) (by have := Ay; omega) (by simp)
 have h' : Wc b = some (Bh9 b (b.length + 1) 0 []) := h
 rw [Oy, Rj, h', Aa, frontS, Bga, Bh9]
 have ho := Aph b (b.length + 1) 0 (by omega) (by omega)
 by_cases h0 : (Ct b (b.length + 1) 0).2 = 0
 ·obtain ⟨i1, i2, i3⟩ := ho h0
  have hp := Aq1 i1
  simp only [h0, if_true, List.nil_append]
  have := Asq 0 (Ct b (b.length + 1) 0).1 (by omega) i1 (Ct b (b.length + 1) 0).1.length 0 Ba 0 (by omega) (by have := Ay; omega) (by omega) (by simpa using i3)
  simpa [Kn] using this
 ·simp only [h0, if_false]
  have := Asq (Ct b (b.length + 1) 0).2 [] (by simp) (by simp) 0 0 Ba 0 (by simp) (by have := Ay; omega) (by omega) (by simp)
  simpa [Kn] using this
theorem Be5 {b : List UInt8} (h : (frontS b).2 = 0) : 0 ≤ (frontS b).1 ∧ (frontS b).1 ≤ b.length ∧ (frontS b).1 ≤ 4000 := by
 unfold frontS Bga at h ⊢
 split at h
 ·rename_i h0
  rw [if_pos h0]
  obtain ⟨i1, i2, i3⟩ := Aph b (b.length + 1) 0 (by omega) (by omega) h0
  have hp := Aq1 i1
  exact ⟨by simp; omega, i2, i3⟩
 ·rename_i h0; exact absurd h h0
end Go.Pl
set_option linter.unusedVariables false
set_option linter.unusedSimpArgs false
namespace Go.Pl
open Go Go.Lv
def longN (r : Nat) : Nat := max 1 (256 * r / 245)
theorem Al0 (r : Nat) : 1 ≤ longN r := Nat.le_max_left _ _
theorem Ast {r : Nat} (h : r ≤ 1048576) : longN r ≤ 1100000 := by unfold longN; omega
theorem Ay6 {r : Nat} (h : r ≤ 1048576) : Al6 (1 : Int) (Dc (Bp (256 : Int) (r : Int)) (245 : Int)) = (longN r : Int) := by
 rw [Ih (by omega) (by omega), Ae9, Int.tdiv_eq_ediv_of_nonneg (by omega), Bu (by omega) (by omega), Bby, longN]; omega
def framesL (g n : Nat) : List Int := List.replicate ((n - 1) / g) (g : Int) ++ [((n - (n - 1) / g * g : Nat) : Int)]
theorem Az6 (g n : Nat) : (framesL g n).length = (n - 1) / g + 1 := by simp [framesL]
theorem Au2 {g n : Nat} (h : n ≤ g) (h1 : 1 ≤ n) : framesL g n = [(n : Int)] := by
 rw [framesL, Nat.div_eq_of_lt (by omega)]; simp
theorem Bab {g n : Nat} (hg : 1 ≤ g) (h : g < n) : framesL g n = (g : Int) :: framesL g (n - g) := by
 have e : (n - 1) / g = (n - g - 1) / g + 1 := by rw [← Nat.add_div_right _ (by omega)]; congr 1; omega
 rw [framesL, framesL, e, List.replicate_succ, List.cons_append]
 congr 4
 have := Nat.div_mul_le_self (n - g - 1) g
 rw [Nat.add_mul, Nat.one_mul]; omega
theorem Aoa {g n : Nat} (hg : 1 ≤ g) (h1 : 1 ≤ n) : (n + g - 1) / g = (n - 1) / g + 1 := by
 rw [← Nat.add_div_right _ (by omega)]; congr 1; omega
theorem Avv {r : Nat} (h1 : 1 ≤ r) (h : r ≤ 1048576) : Yw (r : Int) = some ((longN r : Int), 0) := by
 rw [Yw, if_neg (by simp [Af, Bc]; omega), Ay6 h]
theorem Bj3 {r : Nat} (h : r ≤ 1048576) : Lt (r : Int) = some (longN r : Int) := by rw [Lt, Ay6 h]
theorem Arp {r n : Nat} (h1 : 1 ≤ r) (h : r ≤ 1048576) (n1 : 1 ≤ n) (n2 : n ≤ 4000) : Vl (r : Int) (n : Int) = some (if 1000 < (n - 1) / longN r + 1 then (0, 4) else ((((n - 1) / longN r + 1 : Nat) : Int), 0)) := by
 have hp := Al0 r
 have hl := Ast h
 have e : Dc (Am (Ae (n : Int) (longN r : Int)) (1 : Int)) (longN r : Int) = (((n - 1) / longN r + 1 : Nat) : Int) := by
  have : (n + longN r - 1) / longN r ≤ n + longN r - 1 := Nat.div_le_self _ _
  rw [Ag (by omega) (by omega), Bt (by omega) (by omega), Ae9, Int.tdiv_eq_ediv_of_nonneg (by omega), show (n : Int) + (longN r : Int) - 1 = ((n + longN r - 1 : Nat) : Int) by omega, ← Int.natCast_ediv, Aoa hp n1]
  rw [Aoa hp n1] at this
  generalize (n - 1) / longN r = k at *
  exact Bu (by omega) (by omega)
 rw [Vl, Avv h1 h, Aa]
 simp only
 rw [if_neg (by rw [As]; simp), if_neg (by simp [Af, Bc]; omega), Cq (by rw [As]; simp; omega), Aa, e]
 by_cases hk : 1000 < (n - 1) / longN r + 1
 ·rw [if_pos (by rw [Bc]; simp; omega), if_pos hk]
 ·rw [if_neg (by rw [Bc]; simp; omega), if_neg hk]
theorem Atv {r : Nat} (h : r ≤ 1048576) : ∀ (j n q : Nat) (acc : List Int), n ≤ 4000 → n ≤ j → j < q → acc.length + n ≤ 10000 → Cy (r : Int) q (n : Int) acc = some (acc ++ (if n = 0 then [] else framesL (longN r) n))
 | 0, n, q + 1, acc, hn, hj, hq, ha => by
  obtain rfl : n = 0 := by omega
  rw [Cy, Fc, if_neg (by rw [Bc]; simp)]
  simp [Gx, Jy]
 | j + 1, n, q + 1, acc, hn, hj, hq, ha => by
  have hp := Al0 r
  have hl := Ast h
  by_cases h0 : n = 0
  ·subst h0
   rw [Cy, Fc, if_neg (by rw [Bc]; simp)]
   simp [Gx, Jy]
  ·rw [Cy, Fc, if_pos (by rw [Bc]; simp; omega), Bj3 h, Aa, Gp (by simp; omega), Aa, Aa, Bt (by omega) (by omega), Af8]
   by_cases hs : n ≤ longN r
   ·rw [show min (n : Int) (longN r : Int) = (n : Int) by omega, if_neg h0, Au2 hs (by omega)]
    have hz : ∃ k, q = k + 1 := ⟨q - 1, by omega⟩
    obtain ⟨q, rfl⟩ := hz
    rw [Cy, Fc, if_neg (by rw [Bc]; simp; omega)]
    simp [Gx, Jy]
   ·rw [show min (n : Int) (longN r : Int) = (longN r : Int) by omega, show (n : Int) - (longN r : Int) = ((n - longN r : Nat) : Int) by omega, Atv h j (n - longN r) q _ (by omega) (by omega) (by omega) (by simp; omega), if_neg (by omega), if_neg h0, Bab hp (show longN r < n by omega)]
    simp
theorem Aui {r n : Nat} (h : r ≤ 1048576) (n1 : 1 ≤ n) (n2 : n ≤ 4000) : Eh (r : Int) (n : Int) = some (framesL (longN r) n) := by
 have := Atv h n n Ba [] n2 (Nat.le_refl _) (by have := Ay; omega) (by simp; omega)
 rw [Eh, Qm, Qw, this, if_neg (by omega)]; rfl
theorem mul_one (m : Nat) (h : m ≤ 100000) : Abf (1 : UInt64) (UInt64.ofNat m) = some (0, UInt64.ofNat m) := by
 have y1 : (UInt64.ofNat m).toNat = m := Af3 (by omega)
 have s1 : Cj (1 : UInt64) (GI.toZ (32 : UInt64)).toNat = 0 := by decide
 have s2 : Cj (UInt64.ofNat m) (GI.toZ (32 : UInt64)).toNat = 0 := by
  apply UInt64.toNat_inj.1
  rw [Ab6, y1]
  exact Nat.div_eq_of_lt (Nat.lt_of_le_of_lt h (by decide))
 have s0 : Cj (0 : UInt64) (GI.toZ (32 : UInt64)).toNat = 0 := by decide
 have a1 : He (1 : UInt64) (4294967295 : UInt64) = 1 := by decide
 have a0 : He (0 : UInt64) (4294967295 : UInt64) = 0 := by decide
 have a2 : He (UInt64.ofNat m) (4294967295 : UInt64) = UInt64.ofNat m := by
  apply UInt64.toNat_inj.1
  rw [Auc, UInt64.toNat_and, y1]
  show m &&& (2 ^ 32 - 1) = m
  rw [Nat.and_two_pow_sub_one_eq_mod, Nat.mod_eq_of_lt (by omega)]
 have m1 : ∀ x : UInt64, Bp 1 x = x := fun x => by rw [Ab2, UInt64.one_mul]
 have m0 : ∀ x : UInt64, Bp 0 x = 0 := fun x => by rw [Ab2, UInt64.zero_mul]
 have p0 : ∀ x : UInt64, Ae 0 x = x := fun x => by rw [Acf, UInt64.zero_add]
 have p1 : ∀ x : UInt64, Ae x 0 = x := fun x => by rw [Acf, UInt64.add_zero]
 rw [Abf, Acy]
 simp only [s1, s2, a1, a2, m1, m0, p0, p1, s0, a0, Aa]
theorem Aqb (v : Int) (m : Nat) (hm : m ≤ 100000) : ∀ (j n q : Nat), 1 ≤ n → n ≤ m → m - n ≤ j → j < q → Dp q (n : Int) (List.replicate n v ++ List.replicate (m - n) 0) = some (List.replicate m v)
 | j, n, q + 1, hn, hnm, hj, hq => by
  have hlen : Ac (List.replicate n v ++ List.replicate (m - n) 0) = (m : Int) := by simp [Ac]; omega
  rw [Dp, Fh, hlen]
  by_cases h : n < m
  ·obtain ⟨j, rfl⟩ : ∃ k, j = k + 1 := ⟨j - 1, by omega⟩
   rw [if_pos (by rw [Af]; simp; omega)]
   have v1 : vwI (m : Int) (n : Int) (m : Int) = some () := by rw [vwI, Cq]; simp; omega
   have v2 : vwI (m : Int) (0 : Int) (n : Int) = some () := by rw [vwI, Cq]; simp; omega
   have e1 : Ahq (List.replicate n v ++ List.replicate (m - n) 0) (0 : Int) ((n : Int) - 0) = List.replicate n v := by
    simp [Ahq]
   rw [v1, Aa, v2, Aa, e1]
   have e2 : Ae3 ((m : Int) - (n : Int)) (List.replicate n v).length = ((min n (m - n) : Nat) : Int) := by
    rw [Ae3, List.length_replicate]; split <;> omega
   have e3 : Qv (List.replicate n v ++ List.replicate (m - n) 0) (n : Int) ((m : Int) - (n : Int)) (List.replicate n v) = List.replicate (n + min n (m - n)) v ++ List.replicate (m - (n + min n (m - n))) 0 := by
    have t1 : ((m : Int) - (n : Int)).toNat = m - n := by omega
    have t2 : (List.replicate n v ++ List.replicate (m - n) (0 : Int)).take n = List.replicate n v := by simp
    rw [Qv, t1, Int.toNat_natCast, t2, List.take_replicate, List.length_replicate, ← List.append_assoc, List.replicate_append_replicate, List.drop_append, List.length_replicate, Nat.min_comm (m - n) n]
    simp only [List.drop_replicate]
    rw [show n - (n + min n (m - n)) = 0 by omega, List.replicate_zero, List.nil_append, show m - n - (n + min n (m - n) - n) = m - (n + min n (m - n)) by omega]
   rw [e2, e3, Ag (by omega) (by omega), show (n : Int) + ((min n (m - n) : Nat) : Int) = ((n + min n (m - n) : Nat) : Int) by omega]
   exact Aqb v m hm j (n + min n (m - n)) q (by omega) (by omega) (by omega) (by omega)
  ·rw [if_neg (by rw [Af]; simp; omega)]
   obtain rfl : n = m := by omega
   simp [Gq, Kt]
theorem Bfd (v : Int) (m : Nat) (hm : m ≤ 100000) : Kc [v] (m : Int) = some (List.replicate m v) := by
 have y1 : (UInt64.ofNat m).toNat = m := Af3 (by omega)
 have c1 : (Ad (Ac [v]) : UInt64) = 1 := by rfl
 have c2 : (Ad (m : Int) : UInt64) = UInt64.ofNat m := Xa m
 have c3 : (Ad (UInt64.ofNat m) : Int) = (m : Int) := by rw [Apf (by omega), y1]
 rw [Kc, Me, if_neg (by rw [Af]; simp), Mb, Ma, c1, c2, mul_one m hm, Aa]
 simp only
 rw [if_neg (by rw [Afp, Afp, y1]; simp; show m ≤ 9223372036854775807; omega), Mj, Mf, c3, Ar0 (by omega) (by omega), Aa, Cq (by rw [Cd]; simp), Aa, Mk, Int.toNat_natCast]
 by_cases h0 : m = 0
 ·subst h0
  have hF : Ba = (Ba - 1) + 1 := by have := Ay; omega
  rw [hF, Dp, Fh]
  simp [Ac, Arx, Ae3, Af, Gq, Kt]
 ·have := Aqb v m hm m 1 Ba (by omega) (by omega) (by omega) (by have := Ay; omega)
  have e1 : Ae3 (Ac (List.replicate m (0 : Int))) [v].length = ((1 : Nat) : Int) := by simp [Ae3, Ac]; omega
  have e2 : Arx (List.replicate m (0 : Int)) [v] = List.replicate 1 v ++ List.replicate (m - 1) 0 := by
   obtain ⟨k, rfl⟩ : ∃ k, m = k + 1 := ⟨m - 1, by omega⟩
   simp [Arx]
  rw [e1, e2, this]
theorem Bfi (l m : List Int) (h : l.length + m.length ≤ 1000000) : Kb [l, m] = some (l ++ m) := by
 have hF : Ba = (Ba - 3) + 1 + 1 + 1 := by have := Ay; omega
 rw [Kb, Md, Mn]
 have g0 : Aj [l, m] (0 : Int) = some l := rfl
 have g1 : Aj [l, m] (1 : Int) = some m := rfl
 have l2 : Ac [l, m] = 2 := rfl
 have h3 : Gs [l, m] [] = some (l ++ m) := by
  rw [Gs, Kr, Kx, hF, Dj, Er, l2, if_pos (by decide), g0, Aa, Gp (by simp; omega), Aa, List.nil_append, show Ae (0 : Int) 1 = 1 by decide,
   Dj, Er, l2, if_pos (by decide), g1, Aa, Gp (by omega), Aa, show Ae (1 : Int) 1 = 2 by decide, Dj, Er, l2, if_neg (by decide)]
  rfl
 rw [hF, Dn, Fi, l2, if_pos (by decide), g0, Aa, Ag (by unfold Ac; omega) (by unfold Ac; omega), if_neg (by rw [Af, Ac]; simp), show Ae (0 : Int) 1 = 1 by decide,
  Dn, Fi, l2, if_pos (by decide), g1, Aa, Ag (by unfold Ac; omega) (by unfold Ac; omega), if_neg (by rw [Af, Ac, Ac]; simp; omega), show Ae (1 : Int) 1 = 2 by decide,
  Dn, Fi, l2, if_neg (by decide), Kw, Ky, if_neg (by rw [Af, Ac, Ac]; simp; omega), Kz, Ku]
 have z : Am (0 : Int) 0 = 0 := by decide
 have n0 : (0 : Int) + Ac l + Ac m = ((l.length + m.length : Nat) : Int) := by simp [Ac]
 rw [z, n0, Bt (by omega) (by omega), Int.sub_zero]
 by_cases hp : 0 < l.length + m.length
 ·rw [if_pos (by rw [Bc]; simp; omega), show vwI (0 : Int) 0 0 = some () from rfl, Aa, Ar0 (by omega) (by omega), Aa, Gp (by simp; omega), Aa]
  rw [show vwI (Ac ([] ++ List.replicate ((l.length + m.length : Nat) : Int).toNat (0 : Int))) 0 0 = some () by rw [vwI, Cq]; simp [Ac]; omega, Aa]
  simp only [Ahq, Int.sub_self, Int.toNat_zero, List.take_zero]
  exact h3
 ·rw [if_neg (by rw [Bc]; simp; omega)]; exact h3
theorem Bh8 {r n : Nat} (h1 : 1 ≤ r) (h : r ≤ 1048576) (n1 : 1 ≤ n) (n2 : n ≤ 4000) (hk : (n - 1) / longN r + 1 ≤ 1000) : Af2 (r : Int) (n : Int) = some (framesL (longN r) n, 0) := by
 have hp := Al0 r
 have hl := Ast h
 have hd := Nat.div_mul_le_self (n - 1) (longN r)
 rw [Af2, Arp h1 h n1 n2, if_neg (by omega), Aa]
 simp only
 rw [if_neg (by rw [As]; simp), Avv h1 h, Aa]
 simp only
 rw [framesL]
 generalize (n - 1) / longN r = k at *
 have e1 : Am ((k + 1 : Nat) : Int) 1 = (k : Int) := by rw [Bt (by omega) (by omega)]; omega
 have e2 : (k : Int) * (longN r : Int) = ((k * longN r : Nat) : Int) := by simp
 rw [e1, Bfd _ _ (by omega), Aa, Ih (by rw [e2]; omega) (by rw [e2]; omega), e2, Bt (by omega) (by omega), Afd, Bfi _ _ (by simp; omega), Aa, Aa, show (n : Int) - ((k * longN r : Nat) : Int) = ((n - k * longN r : Nat) : Int) by omega]
end Go.Pl
set_option linter.unusedVariables false
set_option linter.unusedSimpArgs false
namespace Go.Pl
open Go Go.Lv
def shapeB (f c w r n : Nat) : Bool := decide ((f = 1 ∨ f = 2) ∧ (1 ≤ c ∧ c ≤ 6) ∧ (w = 8 ∨ w = 16 ∨ w = 24) ∧ (1 ≤ r ∧ r ≤ 1048576) ∧ 1 ≤ n)
def fitB (c r n : Nat) : Bool := decide (n ≤ 4000 / c ∧ (n - 1) / longN r + 1 ≤ 1000)
theorem Aqc (f c w r n : Nat) : Vb (f : Int) (c : Int) (w : Int) (r : Int) (n : Int) = some (shapeB f c w r n) := by
 have e2 : Uf (f : Int) (c : Int) (w : Int) (r : Int) (n : Int) = some (decide ((f = 1 ∨ f = 2) ∧ (1 ≤ c ∧ c ≤ 6) ∧ (1 ≤ r ∧ r ≤ 1048576) ∧ 1 ≤ n)) := by
  rw [Uf, Ahw]
  congr 1
  rw [Bool.eq_iff_iff]
  simp only [Cd, Bc, Avn, Bool.and_eq_true, Bool.or_eq_true, beq_iff_eq, decide_eq_true_eq]
  omega
 have g : ∀ k : Nat, geq (w : Int) (k : Int) = decide (w = k) := fun k => by rw [Cd, Bool.eq_iff_iff]; simp; omega
 have g8 : geq (w : Int) (8 : Int) = decide (w = 8) := g 8
 have g16 : geq (w : Int) (16 : Int) = decide (w = 16) := g 16
 have g24 : geq (w : Int) (24 : Int) = decide (w = 24) := g 24
 rw [Vb, Aaj, e2, g8, g16, g24, shapeB]
 by_cases h8 : w = 8
 ·subst h8; simp
 ·by_cases h16 : w = 16
  ·subst h16; simp
  ·by_cases h24 : w = 24
   ·subst h24; simp
   ·simp [h8, h16, h24]
theorem Bbt (f c w r n : Nat) : Mu (f : Int) (c : Int) (w : Int) (r : Int) (n : Int) = some (shapeB f c w r n) := by
 rw [Mu, shapeB]
 simp only [Cd, Dm, Avn, Bool.and_eq_true, Bool.or_eq_true, beq_iff_eq, decide_eq_true_eq, Bool.false_and]
 split
 ·rename_i h
  congr 1
  rw [Bool.eq_iff_iff]
  simp only [Bool.and_eq_true, Bool.or_eq_true, beq_iff_eq, decide_eq_true_eq]
  omega
 ·rename_i h
  congr 1
  symm
  rw [decide_eq_false_iff_not]
  omega
theorem Bnf {c : Nat} (h : 1 ≤ c) : Dc (4000 : Int) (c : Int) = ((4000 / c : Nat) : Int) := by
 have : 4000 / c ≤ 4000 := Nat.div_le_self _ _
 rw [Ae9, Int.tdiv_eq_ediv_of_nonneg (by omega), show (4000 : Int) = ((4000 : Nat) : Int) from rfl, ← Int.natCast_ediv]
 generalize 4000 / c = k at *
 exact Bu (by omega) (by omega)
theorem Awm {f c w r n : Nat} (h : shapeB f c w r n = true) : Abx (f : Int) (c : Int) (w : Int) (r : Int) (n : Int) = some (fitB c r n) := by
 simp only [shapeB, decide_eq_true_eq] at h
 have hd : 4000 / c ≤ 4000 := Nat.div_le_self _ _
 rw [Abx, Cq (by rw [As]; simp; omega), Aa, Bnf (by omega), fitB]
 generalize 4000 / c = m at *
 by_cases h1 : n ≤ m
 ·rw [if_neg (by rw [Bc]; simp; omega), Arp (by omega) (by omega) (by omega) (by omega), Aa]
  generalize (n - 1) / longN r + 1 = k
  by_cases h2 : 1000 < k
  ·rw [if_pos h2]
   simp [Cd, Avn]
   omega
  ·rw [if_neg h2]
   simp [Cd, Avn, h1]
   omega
 ·rw [if_pos (by rw [Bc]; simp; omega)]
  simp [h1]
theorem Bie {f c w r n : Nat} (h : shapeB f c w r n = true) : Hs (f : Int) (c : Int) (w : Int) (r : Int) (n : Int) = some (!fitB c r n) := by
 simp only [shapeB, decide_eq_true_eq] at h
 have hd : 4000 / c ≤ 4000 := Nat.div_le_self _ _
 rw [Hs, Cq (by rw [As]; simp; omega), Aa, Bnf (by omega), fitB]
 generalize 4000 / c = m at *
 by_cases h1 : n ≤ m
 ·rw [if_neg (by rw [Bc]; simp; omega), Aui (by omega) (by omega) (by omega), Aa, Ac, Az6]
  generalize (n - 1) / longN r + 1 = k
  congr 1
  rw [Bc, Bool.eq_iff_iff]
  simp only [decide_eq_true_eq, Bool.not_eq_true', decide_eq_false_iff_not]
  omega
 ·rw [if_pos (by rw [Bc]; simp; omega)]
  simp [h1]
def Ap7 : List UInt8 := [84, 84, 65, 49]
def f0 (b : List UInt8) : Nat := Eb (part b 4 2)
def f1 (b : List UInt8) : Nat := Eb (part b 6 2)
def f2 (b : List UInt8) : Nat := Eb (part b 8 2)
def f3 (b : List UInt8) : Nat := Eb (part b 10 4)
def f4 (b : List UInt8) : Nat := Eb (part b 14 4)
abbrev H6 := Int × Int × Int × Int × Int × Int
def Zk (b : List UInt8) : H6 :=
 if b.take (min 4 b.length) ≠ Ap7.take (min 4 b.length) then (0, 0, 0, 0, 0, 12) else if b.length < 22 then (0, 0, 0, 0, 0, 24) else
 if (Gd (b.take 18)).toNat ≠ Eb (part b 18 4) then (0, 0, 0, 0, 0, 22) else
 if shapeB (f0 b) (f1 b) (f2 b) (f3 b) (f4 b) = false then (0, 0, 0, 0, 0, 12) else
 if fitB (f1 b) (f3 b) (f4 b) = false then (0, 0, 0, 0, 0, 4) else ((f0 b : Int), (f1 b : Int), (f2 b : Int), (f3 b : Int), (f4 b : Int), 0)
section
variable {b : List UInt8}
theorem rs1 (h : b.take (min 4 b.length) ≠ Ap7.take (min 4 b.length)) : Zk b = (0, 0, 0, 0, 0, 12) := by rw [Zk, if_pos h]
variable (h : b.take (min 4 b.length) = Ap7.take (min 4 b.length))
include h
theorem rs2 (h2 : b.length < 22) : Zk b = (0, 0, 0, 0, 0, 24) := by rw [Zk, if_neg (fun e => e h), if_pos h2]
variable (h2 : ¬ b.length < 22)
include h2
theorem rs3 (h3 : (Gd (b.take 18)).toNat ≠ Eb (part b 18 4)) : Zk b = (0, 0, 0, 0, 0, 22) := by rw [Zk, if_neg (fun e => e h), if_neg h2, if_pos h3]
variable (h3 : (Gd (b.take 18)).toNat = Eb (part b 18 4))
include h3
theorem rs4 (h4 : shapeB (f0 b) (f1 b) (f2 b) (f3 b) (f4 b) = false) : Zk b = (0, 0, 0, 0, 0, 12) := by rw [Zk, if_neg (fun e => e h), if_neg h2, if_neg (fun e => e h3), if_pos h4]
variable (h4 : shapeB (f0 b) (f1 b) (f2 b) (f3 b) (f4 b) = true)
include h4
theorem rs5 (h5 : fitB (f1 b) (f3 b) (f4 b) = false) : Zk b = (0, 0, 0, 0, 0, 4) := by rw [Zk, if_neg (fun e => e h), if_neg h2, if_neg (fun e => e h3), if_neg (by rw [h4]; simp), if_pos h5]
theorem rs6 (h5 : fitB (f1 b) (f3 b) (f4 b) = true) : Zk b = ((f0 b : Int), (f1 b : Int), (f2 b : Int), (f3 b : Int), (f4 b : Int), 0) := by rw [Zk, if_neg (fun e => e h), if_neg h2, if_neg (fun e => e h3), if_neg (by rw [h4]; simp), if_neg (by rw [h5]; simp)]
end
theorem Bih (b : List UInt8) (h2 : ¬ b.length < 22) : Db (Ad (Gd (b.take 18)) : UInt64) (leU (part b 18 4)) = decide ((Gd (b.take 18)).toNat ≠ Eb (part b 18 4)) := by
 rw [Adk, Gl, Bool.eq_iff_iff]
 simp only [bne_iff_ne, ne_eq, decide_eq_true_eq]
 rw [← UInt64.toNat_inj, Af3 (by have := (Gd (b.take 18)).toNat_lt; omega), Af1 (by rw [Cx (by omega)]; omega)]
theorem Aj4 (b : List UInt8) (a w : Nat) (i q : Nat) (l : List Int) (hi : i < 5) (hl : l.length = 5) (hw : Aj ([2, 2, 2, 4, 4] : List Int) (i : Int) = some (w : Int)) (h1 : 1 ≤ w) (h4 : w ≤ 4) (ha : a + w ≤ b.length) (hb : b.length < 4611686018427387904) :
  Jr b (q + 1) (a : Int) (i : Int) l = Jr b q ((a + w : Nat) : Int) ((i + 1 : Nat) : Int) (l.set i (Eb (part b a w) : Int)) := by
 rw [Jr, Zl, if_pos (by rw [Af]; simp; omega), hw, Aa, Awa b a w h1 (by omega) ha hb, Aa]
 simp only
 rw [Dl (by omega), Aa, Us _ (by omega), Aa, Aa8 (by rw [Cx ha]; omega), Ag (by omega) (by omega), Ag (by omega) (by omega)]
 rfl
theorem Bhr (b : List UInt8) (h22 : ¬ b.length < 22) (hb : b.length < 4611686018427387904) : Yd b 4 0 (List.replicate 5 0) = Xu [(f0 b : Int), (f1 b : Int), (f2 b : Int), (f3 b : Int), (f4 b : Int)] := by
 have hF : Ba = (Ba - 6) + 1 + 1 + 1 + 1 + 1 + 1 := by have := Ay; omega
 rw [Yd, hF, show (4 : Int) = ((4 : Nat) : Int) from rfl, show (0 : Int) = ((0 : Nat) : Int) from rfl]
 rw [Aj4 b 4 2 0 _ _ (by omega) (by simp) rfl (by omega) (by omega) (by omega) hb, Aj4 b 6 2 1 _ _ (by omega) (by simp) rfl (by omega) (by omega) (by omega) hb, Aj4 b 8 2 2 _ _ (by omega) (by simp) rfl (by omega) (by omega) (by omega) hb,
  Aj4 b 10 4 3 _ _ (by omega) (by simp) rfl (by omega) (by omega) (by omega) hb, Aj4 b 14 4 4 _ _ (by omega) (by simp) rfl (by omega) (by omega) (by omega) hb, Jr, Zl, if_neg (by rw [Af]; simp)]
 rfl
theorem Bqn (b : List UInt8) : Rl [84, 84, 65, 49] (b.take (min 4 b.length)) = some (decide (b.take (min 4 b.length) = Ap7.take (min 4 b.length))) := by
 have hl : (b.take (min 4 b.length)).length = min 4 b.length := by rw [List.length_take]; omega
 rw [Rl, Hg, if_pos (by rw [Dm, Ac, Ac, hl]; simp; omega), Ac, hl, Ls (by omega) (by simp; omega), Aa, Aa, Int.toNat_natCast]
 congr 1
 rw [Bool.eq_iff_iff]
 rw [decide_eq_true_eq, beq_iff_eq]
 exact eq_comm
theorem Bo8 (b : List UInt8) : Fy (4 : Int) (Ac b) = ((min 4 b.length : Nat) : Int) := by rw [Af8, Ac]; omega
theorem Bfj (b : List UInt8) (hb : b.length < 4611686018427387904) : Afu b = some (Zk b) := by
 rw [Afu, Ad9, Bo8, Ls (by omega) (by omega), Aa, Int.toNat_natCast, Bqn, Aa]
 by_cases h : b.take (min 4 b.length) = Ap7.take (min 4 b.length)
 ·rw [if_neg (by simpa using h)]
  by_cases h2 : b.length < 22
  ·rw [if_pos (by rw [Af, Ac]; simp; omega), rs2 h h2]
  ·have a1 : Ahy b 18 4 = some (leU (part b 18 4), 0) := Awa b 18 4 (by omega) (by omega) (by omega) hb
   rw [if_neg (by rw [Af, Ac]; simp; omega), a1, Aa]
   simp only
   rw [Ls (by omega) (by omega), Aa, show (18 : Int).toNat = 18 from rfl, Bco _ (by simp; omega), Aa]
   simp only
   rw [Bih b h2]
   by_cases h3 : (Gd (b.take 18)).toNat = Eb (part b 18 4)
   ·rw [if_neg (by simpa using h3), Bhr b h2 hb, Xu, Akz]
    rw [show Aj [(f0 b : Int), (f1 b : Int), (f2 b : Int), (f3 b : Int), (f4 b : Int)] 0 = some (f0 b : Int) from rfl, show Aj [(f0 b : Int), (f1 b : Int), (f2 b : Int), (f3 b : Int), (f4 b : Int)] 1 = some (f1 b : Int) from rfl, show Aj [(f0 b : Int), (f1 b : Int), (f2 b : Int), (f3 b : Int), (f4 b : Int)] 2 = some (f2 b : Int) from rfl,
     show Aj [(f0 b : Int), (f1 b : Int), (f2 b : Int), (f3 b : Int), (f4 b : Int)] 3 = some (f3 b : Int) from rfl, show Aj [(f0 b : Int), (f1 b : Int), (f2 b : Int), (f3 b : Int), (f4 b : Int)] 4 = some (f4 b : Int) from rfl]
    simp only [Aa, Aqc]
    cases h4 : shapeB (f0 b) (f1 b) (f2 b) (f3 b) (f4 b) with
    | false => rw [rs4 h h2 h3 h4]; rfl
    | true =>
     rw [Awm h4, if_neg (by simp), Aa]
     cases h5 : fitB (f1 b) (f3 b) (f4 b) with
     | false => rw [rs5 h h2 h3 h4 h5]; rfl
     | true => rw [rs6 h h2 h3 h4 h5]; rfl
   ·rw [if_pos (by simpa using h3), rs3 h h2 h3]
 ·rw [if_pos (by simpa using h), rs1 h]
theorem Bhq (b : List UInt8) (hb : b.length < 4611686018427387904) : Ru b = some (Zk b) := by
 rw [Ru, Tp, Bo8, Ls (by omega) (by omega), Aa, Int.toNat_natCast, Ls (by omega) (by simp; omega), Aa, Int.toNat_natCast]
 by_cases h : b.take (min 4 b.length) = Ap7.take (min 4 b.length)
 ·rw [if_neg (by rw [h]; simp [Ap7]), Ts, Tf]
  by_cases h2 : b.length < 22
  ·rw [if_pos (by rw [Af, Ac]; simp; omega), rs2 h h2]
  ·have a1 : Cv b 18 22 = some (part b 18 4) := Ln 18 4 (by omega)
   have c1 : Cv b 4 6 = some (part b 4 2) := Ln 4 2 (by omega)
   have c2 : Cv b 6 8 = some (part b 6 2) := Ln 6 2 (by omega)
   have c3 : Cv b 8 10 = some (part b 8 2) := Ln 8 2 (by omega)
   have c4 : Cv b 10 14 = some (part b 10 4) := Ln 10 4 (by omega)
   have c5 : Cv b 14 18 = some (part b 14 4) := Ln 14 4 (by omega)
   have hs : Db (leU (part b 18 4)) (Ad (Gd (b.take 18)) : UInt64) = decide ((Gd (b.take 18)).toNat ≠ Eb (part b 18 4)) := by
    rw [← Bih b h2, Adk, Adk, Bool.eq_iff_iff]; simp only [bne_iff_ne, ne_eq]; exact not_congr eq_comm
   have lp : ∀ a w, a + w ≤ b.length → Ah (part b a w) = some (leU (part b a w)) := fun a w h => Az0 _ (by rw [Cx h]; omega)
   rw [if_neg (by rw [Af, Ac]; simp; omega), a1, Aa, Ls (by omega) (by omega), Aa, show (18 : Int).toNat = 18 from rfl, lp _ _ (by omega), Aa, Bke _ (by simp; omega), Aa, hs]
   by_cases h3 : (Gd (b.take 18)).toNat = Eb (part b 18 4)
   ·rw [if_neg (by simpa using h3), Sy, Lp, c1, Aa, c2, Aa, c3, Aa, c4, Aa, c5, Aa, lp _ _ (by omega), Aa, lp _ _ (by omega), Aa, lp _ _ (by omega), Aa, lp _ _ (by omega), Aa, lp _ _ (by omega), Aa,
     Tc, Ace, Aa8 (by rw [Cx (by omega)]; omega), Aa8 (by rw [Cx (by omega)]; omega), Aa8 (by rw [Cx (by omega)]; omega), Aa8 (by rw [Cx (by omega)]; omega), Aa8 (by rw [Cx (by omega)]; omega)]
    rw [show Eb (part b 4 2) = f0 b from rfl, show Eb (part b 6 2) = f1 b from rfl, show Eb (part b 8 2) = f2 b from rfl, show Eb (part b 10 4) = f3 b from rfl, show Eb (part b 14 4) = f4 b from rfl, Bbt, Aa]
    cases h4 : shapeB (f0 b) (f1 b) (f2 b) (f3 b) (f4 b) with
    | false => rw [rs4 h h2 h3 h4]; rfl
    | true =>
     rw [Bie h4, if_neg (by simp), Aa]
     cases h5 : fitB (f1 b) (f3 b) (f4 b) with
     | false => rw [rs5 h h2 h3 h4 h5]; rfl
     | true => rw [rs6 h h2 h3 h4 h5]; rfl
   ·rw [if_pos (by simpa using h3), rs3 h h2 h3]
 ·rw [if_pos (by simpa [Ap7] using h), rs1 h]
theorem Bjx {b : List UInt8} (h : (Zk b).2.2.2.2.2 = 0) : Zk b = ((f0 b : Int), (f1 b : Int), (f2 b : Int), (f3 b : Int), (f4 b : Int), 0) ∧ 22 ≤ b.length ∧ shapeB (f0 b) (f1 b) (f2 b) (f3 b) (f4 b) = true ∧ fitB (f1 b) (f3 b) (f4 b) = true := by
 unfold Zk at h ⊢
 split at h; · simp at h
 rename_i c1; rw [if_neg c1]
 split at h; · simp at h
 rename_i c2; rw [if_neg c2]
 split at h; · simp at h
 rename_i c3; rw [if_neg c3]
 split at h; · simp at h
 rename_i c4; rw [if_neg c4]
 split at h; · simp at h
 rename_i c5; rw [if_neg c5]
 exact ⟨rfl, by omega, by simpa using c4, by simpa using c5⟩
theorem Apu {f c w r n : Nat} (h : shapeB f c w r n = true) (h2 : fitB c r n = true) : Vh (f : Int) (c : Int) (w : Int) (r : Int) (n : Int) = some (framesL (longN r) n, 0) := by
 have hc : Adr (f : Int) (c : Int) (w : Int) (r : Int) (n : Int) = some 0 := by
  rw [Adr, Aqc, Aa, h, if_neg (by simp), Awm h, Aa, h2]; rfl
 have hd : 4000 / c ≤ 4000 := Nat.div_le_self _ _
 simp only [shapeB, decide_eq_true_eq] at h
 simp only [fitB, decide_eq_true_eq] at h2
 rw [Vh, hc, Aa, if_neg (by rw [As]; simp), Bh8 (by omega) (by omega) (by omega) (by omega) h2.2]
 rfl
end Go.Pl
