/- A part of the proof of a statement of this seat (see the text that ends in Proof): LwBase, LwBitB, LwLe, LwBits, LwRef02, LwCut, LwUn, LwRice, LwDual, LwVal, LwI32, LwFil, LwUnm, LwSam, LwCrc, LwFrm, LwC64, LwWby, LwId, LwApe, LwStrip, LwLen, LwHead. No conditions of its own. -/
import Derived.Test.YthchpoekjnapnaaGreatDoorSgBA
import Derived.Test.YthchpoekjnapnaaGreatDoorSgPA
set_option linter.unusedVariables false
set_option linter.unusedSimpArgs false
namespace Go.Lv
theorem Ag {a b : Int} (h : -9223372036854775808 ≤ a + b) (h' : a + b ≤ 9223372036854775807) : Ae a b = a + b := by rw [Brb, Bt h h']
theorem Bg {a b : Int} (h : -9223372036854775808 ≤ a - b) (h' : a - b ≤ 9223372036854775807) : Ak a b = a - b := by rw [Bq5, Bt h h']
theorem Gz {a b : Int} (h : -9223372036854775808 ≤ a * b) (h' : a * b ≤ 9223372036854775807) : Bj a b = a * b := by rw [Bmb, Bt h h']
theorem Ae5 (c : UInt8) : (Ad c : Int) = (c.toNat : Int) := by rw [Bl7, Bt] <;> have := c.toNat_lt <;> omega
theorem Bfc (c : UInt32) : (Ad c : Int) = (c.toNat : Int) := by rw [Bhp, Bt] <;> have := c.toNat_lt <;> omega
theorem Ao3 (c : UInt8) : (Ad c : UInt64) = UInt64.ofNat c.toNat := by simp only [Ad, Xe, Ga]
theorem Gv (c : UInt32) : (Ad c : UInt64) = UInt64.ofNat c.toNat := by simp only [Ad, Uz, Ga]
theorem Ajd (c : UInt64) : (Ad c : UInt8) = UInt8.ofNat c.toNat := by simp only [Ad, Hb, Kb]
theorem Ao5 (c : UInt32) : (Ad c : UInt8) = UInt8.ofNat c.toNat := by simp only [Ad, Uz, Kb]
theorem Xt (n : Nat) : (Ad (n : Int) : UInt64) = UInt64.ofNat n := by simp only [Ad]; exact Ga n
theorem Axe (n : Nat) : (Ad (n : Int) : UInt32) = UInt32.ofNat n := by simp only [Ad]; exact Dx n
theorem Bmn (n : Nat) : (Ad (n : Int) : UInt8) = UInt8.ofNat n := by simp only [Ad]; exact Kb n
theorem Ark {c : UInt64} (h : c.toNat < 9223372036854775808) : (Ad c : Int) = (c.toNat : Int) := by rw [Bh9, Bt] <;> omega
theorem Bf8 : LIM = 17179869184 := by decide
theorem Au : 36893488147419103231 < Ba := by decide
theorem Ds {α : Type} {l : List α} {n : Nat} (h : n < l.length) : getI l (n : Int) = some l[n] := by simp [getI, h]
theorem Vz {α : Type} {l : List α} {n : Nat} (x : α) (h : n < l.length) : Pd l (n : Int) x = some (l.set n x) := by simp [Pd, h]
theorem Xc {α : Type} {l : List α} {a b : Int} (h : 0 ≤ a) (h1 : a ≤ b) (h2 : b ≤ l.length) : Ca l a b = some ((l.take b.toNat).drop a.toNat) := by rw [Ca, if_pos ⟨h, h1, h2⟩]
theorem Lk {α : Type} {l : List α} {a : Int} (h : 0 ≤ a) (h1 : a ≤ l.length) : Ca l a (Ac l) = some (l.drop a.toNat) := by
 unfold Ac; rw [Xc h h1 (Int.le_refl _), Int.toNat_natCast, List.take_length]
theorem Jm {α : Type} {l : List α} {b : Int} (h : 0 ≤ b) (h1 : b ≤ l.length) : Ca l 0 b = some (l.take b.toNat) := by rw [Xc (Int.le_refl _) h h1]; rfl
theorem Gc {α : Type} {l m : List α} (h : l.length + m.length ≤ 17179869184) : Hz l m = some (l ++ m) := by rw [Hz, Bf8, if_pos h]
theorem At9 {α : Type} {n : Int} {z : α} (h : 0 ≤ n) (h' : n ≤ 17179869184) : mkI n z = some (List.replicate n.toNat z) := by rw [mkI, Bf8, if_pos ⟨h, h'⟩]
theorem Cm {b : Bool} (h : b = true) : Re b = some () := by rw [h]; rfl
theorem Aa {α β : Type} (a : α) (f : α → Option β) : Option.bind (some a) f = f a := rfl
theorem drop_cons {α : Type} {l : List α} {n : Nat} (h : n < l.length) : l.drop n = l[n] :: l.drop (n + 1) := List.drop_eq_getElem_cons h
theorem Aid {α : Type} {l : List α} {n : Nat} (h : n < l.length) : l.take (n + 1) = l.take n ++ [l[n]] := by rw [List.take_add_one, List.getElem?_eq_getElem h]; rfl
def Dy : List UInt8 → Nat
 | [] => 0
 | x :: r => x.toNat + 256 * Dy r
theorem Azt : ∀ l : List UInt8, Dy l < 256 ^ l.length
 | [] => by simp [Dy]
 | x :: r => by
  have h := Azt r
  have := x.toNat_lt
  simp only [Dy, List.length_cons, Nat.pow_succ]
  omega
theorem Av8 : ∀ l m : List UInt8, Dy (l ++ m) = Dy l + 256 ^ l.length * Dy m
 | [], m => by simp [Dy]
 | x :: r, m => by
  simp only [Dy, List.cons_append, Av8 r m, List.length_cons, Nat.pow_succ, Nat.mul_add]
  rw [Nat.mul_comm (256 ^ r.length) 256, Nat.mul_assoc]; omega
def leU (l : List UInt8) : UInt64 := UInt64.ofNat (Dy l)
theorem Bnk {l : List UInt8} (h : l.length ≤ 8) : Dy l < 18446744073709551616 := by
 have h1 := Azt l
 have h2 : 256 ^ l.length ≤ 256 ^ 8 := Nat.pow_le_pow_right (by omega) h
 exact Nat.lt_of_lt_of_le h1 (by simpa using h2)
theorem Bgn {l : List UInt8} (h : l.length ≤ 4) : Dy l < 4294967296 := by
 have h1 := Azt l
 have h2 : 256 ^ l.length ≤ 256 ^ 4 := Nat.pow_le_pow_right (by omega) h
 exact Nat.lt_of_lt_of_le h1 (by simpa using h2)
theorem Ag7 {l : List UInt8} (h : l.length ≤ 8) : (leU l).toNat = Dy l := by
 rw [leU, UInt64.toNat_ofNat', Nat.mod_eq_of_lt (Bnk h)]
theorem Acg {l : List UInt8} (h : l.length ≤ 4) : (Ad (leU l) : Int) = (Dy l : Int) := by
 have := Bgn h
 rw [Ark] <;> rw [Ag7 (by omega)]; omega
def leB (n : Nat) : Nat → List UInt8
 | 0 => []
 | w + 1 => UInt8.ofNat n :: leB (n / 256) w
theorem Nk : ∀ (w n : Nat), (leB n w).length = w
 | 0, _ => rfl
 | w + 1, n => by simp [leB, Nk w]
theorem Bbi : ∀ (w n : Nat), leB n (w + 1) = leB n w ++ [UInt8.ofNat (n / 256 ^ w)]
 | 0, n => by simp [leB]
 | w + 1, n => by
  rw [leB, Bbi w (n / 256), leB]
  simp [Nat.div_div_eq_div_mul, Nat.pow_succ, Nat.mul_comm]
end Go.Lv
set_option linter.unusedVariables false
set_option linter.unusedSimpArgs false
namespace Go.Lv
def Io (p : List UInt8) (i : Nat) : Nat := (p.getD (i / 8) 0).toNat / 2 ^ (i % 8) % 2
theorem Wp (p : List UInt8) (i : Nat) : Io p i < 2 := Nat.mod_lt _ (by omega)
def Bs (p : List UInt8) : Nat → Nat → Nat
 | _, 0 => 0
 | a, n + 1 => Io p a + 2 * Bs p (a + 1) n
theorem Qh (p : List UInt8) : ∀ (n a : Nat), Bs p a n < 2 ^ n
 | 0, _ => by simp [Bs]
 | n + 1, a => by
  have := Qh p n (a + 1)
  have := Wp p a
  rw [Bs, Nat.pow_succ]; omega
theorem Agr (p : List UInt8) : ∀ (m n a : Nat), Bs p a (m + n) = Bs p a m + 2 ^ m * Bs p (a + m) n
 | 0, n, a => by simp [Bs]
 | m + 1, n, a => by
  rw [show m + 1 + n = (m + n) + 1 by omega, Bs, Bs, Agr p m n (a + 1), show a + 1 + m = a + (m + 1) by omega, Nat.pow_succ, Nat.mul_add, Nat.mul_comm (2 ^ m) 2, Nat.mul_assoc]; omega
theorem Bb8 (p : List UInt8) (a : Nat) : Bs p a 1 = Io p a := by simp [Bs]
theorem Axg (p : List UInt8) (a n : Nat) : Bs p a (n + 1) = Bs p a n + 2 ^ n * Io p (a + n) := by rw [Agr p n 1 a, Bb8]
theorem Ari (p : List UInt8) (a : Nat) : ∀ t : Nat, a % 8 + t ≤ 8 → Bs p a t = (p.getD (a / 8) 0).toNat / 2 ^ (a % 8) % 2 ^ t
 | 0, _ => by simp [Bs, Nat.mod_one]
 | t + 1, h => by
  have h1 : (a + t) / 8 = a / 8 := by omega
  have h2 : (a + t) % 8 = a % 8 + t := by omega
  rw [Axg, Ari p a t (by omega), Io, h1, h2, Nat.mod_pow_succ, Nat.pow_add, Nat.div_div_eq_div_mul]
theorem Axu {p : List UInt8} : ∀ (n a : Nat), (∀ k, k < n → Io p (a + k) = 0) → Bs p a n = 0
 | 0, _, _ => rfl
 | n + 1, a, h => by
  have h0 := h 0 (by omega)
  rw [Bs, Axu n (a + 1) fun k hk => by have := h (k + 1) (by omega); rwa [show a + 1 + k = a + (k + 1) by omega]]
  rw [Nat.add_zero] at h0; omega
def okB (p : List UInt8) (n : Nat) : Prop := n ≤ 330000 ∧ p.length = (n + 7) / 8 ∧ ∀ k, n ≤ k → k < 8 * p.length → Io p k = 0
def Abk (p : List UInt8) (a n : Nat) : List UInt8 := (List.range ((n + 7) / 8)).map fun j => UInt8.ofNat (Bs p (a + 8 * j) (min 8 (n - 8 * j)))
theorem Ls (p : List UInt8) (a n : Nat) : (Abk p a n).length = (n + 7) / 8 := by simp [Abk]
theorem Bdi (p : List UInt8) : ∀ (n a k : Nat), k < n → Bs p a n / 2 ^ k % 2 = Io p (a + k)
 | n + 1, a, 0, _ => by have := Wp p a; rw [Bs]; simp; omega
 | n + 1, a, k + 1, h => by
  have hb := Wp p a
  have e : (Io p a + 2 * Bs p (a + 1) n) / 2 = Bs p (a + 1) n := by omega
  rw [Bs, Nat.pow_succ, Nat.mul_comm (2 ^ k) 2, ← Nat.div_div_eq_div_mul, e, Bdi p n (a + 1) k (by omega), show a + 1 + k = a + (k + 1) by omega]
theorem Bh0 (p : List UInt8) (n a k : Nat) (h : n ≤ k) : Bs p a n / 2 ^ k % 2 = 0 := by
 have := Qh p n a
 rw [Nat.div_eq_of_lt (Nat.lt_of_lt_of_le this (Nat.pow_le_pow_right (by omega) h))]
theorem Bjy (p : List UInt8) (a n k : Nat) : Io (Abk p a n) k = if k < n then Io p (a + k) else 0 := by
 rw [Io]
 by_cases hj : k / 8 < (n + 7) / 8
 ·have e : (Abk p a n).getD (k / 8) 0 = UInt8.ofNat (Bs p (a + 8 * (k / 8)) (min 8 (n - 8 * (k / 8)))) := by
   rw [List.getD_eq_getElem?_getD, List.getElem?_eq_getElem (by rw [Ls]; exact hj)]; simp [Abk]
  have hlt : Bs p (a + 8 * (k / 8)) (min 8 (n - 8 * (k / 8))) < 256 := by
   have := Qh p (min 8 (n - 8 * (k / 8))) (a + 8 * (k / 8))
   have h2 : 2 ^ (min 8 (n - 8 * (k / 8))) ≤ 2 ^ 8 := Nat.pow_le_pow_right (by omega) (by omega)
   omega
  have hu : (UInt8.ofNat (Bs p (a + 8 * (k / 8)) (min 8 (n - 8 * (k / 8))))).toNat = Bs p (a + 8 * (k / 8)) (min 8 (n - 8 * (k / 8))) := by
   rw [UInt8.toNat_ofNat']; exact Nat.mod_eq_of_lt hlt
  rw [e, hu]
  by_cases hk : k < n
  ·rw [if_pos hk, Bdi p _ _ _ (by omega), show a + 8 * (k / 8) + k % 8 = a + k by omega]
  ·rw [if_neg hk, Bh0 p _ _ _ (by omega)]
 ·have e : (Abk p a n).getD (k / 8) 0 = 0 := by
   rw [List.getD_eq_getElem?_getD, List.getElem?_eq_none (by rw [Ls]; omega)]; rfl
  rw [e, if_neg (by omega)]; simp
theorem Bg4 (p : List UInt8) (a n : Nat) (h : n ≤ 330000) : okB (Abk p a n) n := ⟨h, Ls p a n, fun k hk _ => by rw [Bjy, if_neg (by omega)]⟩
end Go.Lv
set_option linter.unusedVariables false
set_option linter.unusedSimpArgs false
namespace Go.Pl
open Go Go.Lv
theorem Bke (b : List UInt8) (hb : b.length < 4611686018427387904) : ∀ (j q : Nat), j ≤ b.length → j < q → Hq b q (leU (b.drop j)) ((j : Int) - 1) = some (leU b)
 | 0, q + 1, _, _ => by
  rw [Hq, Pg, if_neg (by rw [Cz]; simp)]
  simp [Xf, Afr]
 | j + 1, q + 1, hj, hq => by
  rw [Hq, Pg, if_pos (by rw [Cz]; simp), show ((j + 1 : Nat) : Int) - 1 = (j : Int) by omega, Ds (by omega), Aa, Bg (by omega) (by omega)]
  have h : Ae (Bj (256 : UInt64) (leU (b.drop (j + 1)))) (Ad b[j] : UInt64) = leU (b.drop j) := by
   rw [Acp, Ac8, Ao3, drop_cons (n := j) (by omega), leU, leU, Dy, UInt64.ofNat_add, UInt64.ofNat_mul]
   exact UInt64.add_comm _ _
  rw [h]
  exact Bke b hb j q (by omega) (by omega)
theorem Ba3 (b : List UInt8) (hb : b.length < 4611686018427387904) : Aj b = some (leU b) := by
 have h := Bke b hb b.length Ba (Nat.le_refl _) (by have := Au; omega)
 rw [Aj, Xl, Xi]
 have e : Ak (Ac b) 1 = (b.length : Int) - 1 := Bg (by unfold Ac; omega) (by unfold Ac; omega)
 rw [e, ← h, List.drop_length]; rfl
theorem Bkl {n c : UInt64} {i : Nat} (hn : n.toNat < 2 ^ i) (hc : c.toNat * 2 ^ i < 18446744073709551616) : gor n (Fa c i) = UInt64.ofNat (n.toNat + c.toNat * 2 ^ i) := by
 rw [Bpd]; apply UInt64.toNat_inj.1
 rw [UInt64.toNat_or, Aiw, Nat.mod_eq_of_lt hc, Nat.mul_comm, Nat.or_comm, ← Nat.two_pow_add_eq_or_of_lt hn, UInt64.toNat_ofNat', Nat.mod_eq_of_lt, Nat.add_comm, Nat.mul_comm]
 have h := Nat.two_pow_add_eq_or_of_lt hn c.toNat
 have h2 : 2 ^ i * c.toNat + n.toNat < 2 ^ 64 := by
  rw [h]
  exact Nat.or_lt_two_pow (by rw [Nat.mul_comm]; simpa using hc) n.toNat_lt
 rw [Nat.add_comm]; first | exact h2 | (rw [Nat.mul_comm]; exact h2)
theorem Ays (b : List UInt8) (hb : b.length ≤ 8) : ∀ (j i q : Nat), i + j = b.length → j < q → Yg b q (leU (b.take i)) (i : Int) = some (leU b, 0)
 | 0, i, q + 1, hi, _ => by
  rw [Yg, Ag2, if_neg (by rw [Af, Ac]; simp; omega), show i = b.length by omega, List.take_length]; rfl
 | j + 1, i, q + 1, hi, hq => by
  have hlt : i < b.length := by omega
  rw [Yg, Ag2, if_pos (by rw [Af, Ac]; simp; omega), Ds hlt, Aa, Gz (by omega) (by omega), Cm (by rw [Cz]; simp; omega), Aa, Ag (by omega) (by omega)]
  have h : gor (leU (b.take i)) (Fa (Ad b[i] : UInt64) (GI.toZ ((8 : Int) * (i : Int))).toNat) = leU (b.take (i + 1)) := by
   have e : (GI.toZ ((8 : Int) * (i : Int))).toNat = 8 * i := by show ((8 : Int) * (i : Int)).toNat = _; omega
   have e2 : (2 : Nat) ^ (8 * i) = 256 ^ i := by rw [Nat.pow_mul]
   have h1 := Azt (b.take i)
   rw [List.length_take, Nat.min_eq_left (by omega)] at h1
   have h3 := b[i].toNat_lt
   have hle : (256 : Nat) ^ (i + 1) ≤ 256 ^ 8 := Nat.pow_le_pow_right (by omega) (by omega)
   rw [Nat.pow_succ] at hle
   have h4 : (Ad b[i] : UInt64).toNat = b[i].toNat := by rw [Ao3, UInt64.toNat_ofNat']; omega
   have h5 : b[i].toNat * 256 ^ i < 18446744073709551616 := by
    have : b[i].toNat * 256 ^ i < 256 * 256 ^ i := Nat.mul_lt_mul_of_pos_right (by simpa using h3) (Nat.pow_pos (by omega))
    simp at hle; omega
   rw [e, Bkl (by rw [Ag7 (by simp; omega), e2]; exact h1) (by rw [h4, e2]; exact h5), Ag7 (by simp; omega), h4, e2, Aid hlt]
   rw [leU, Av8]
   simp only [Dy, List.length_take, Nat.min_eq_left (Nat.le_of_lt hlt), Nat.mul_zero, Nat.add_zero]
   rw [Nat.mul_comm]
  rw [h]
  exact Ays b hb j (i + 1) q (by omega) (by omega)
theorem Bau (b : List UInt8) (h1 : 1 ≤ b.length) (h2 : b.length ≤ 8) : Amp b = some (leU b, 0) := by
 have h := Ays b h2 b.length 0 Ba (by omega) (by have := Au; omega)
 rw [Amp, Am0, if_neg (by simp [Af, Bb, Ac]; omega), Amb]
 exact h
def part (b : List UInt8) (at' w : Nat) : List UInt8 := (b.take (at' + w)).drop at'
theorem Dc {b : List UInt8} {a w : Nat} (h : a + w ≤ b.length) : (part b a w).length = w := by simp [part]; omega
theorem Axw (b : List UInt8) (a w : Nat) (h1 : 1 ≤ w) (h2 : w ≤ 8) (h3 : a + w ≤ b.length) (hb : b.length < 4611686018427387904) : Ai1 b (a : Int) (w : Int) = some (leU (part b a w), 0) := by
 rw [Ai1, if_neg (by simp [Af, Bb]; omega), if_neg (by rw [Bb, Bg (by unfold Ac; omega) (by unfold Ac; omega), Ac]; simp; omega), Ag (by omega) (by omega), Xc (by omega) (by omega) (by omega), Aa]
 rw [show ((a : Int) + (w : Int)).toNat = a + w by omega, show (a : Int).toNat = a by omega]
 rw [Bau _ (by rw [show ((b.take (a + w)).drop a).length = _ from Dc h3]; exact h1) (by rw [show ((b.take (a + w)).drop a).length = _ from Dc h3]; exact h2), Aa]; rfl
theorem Aru (w : Nat) (hw : w ≤ 1000) : ∀ (j i q : Nat) (n : UInt64) (acc : List UInt8), i + j = w → j < q → acc.length + j ≤ 1000000 → Ei (w : Int) q n (i : Int) acc = some (acc ++ leB n.toNat j)
 | 0, i, q + 1, n, acc, hi, _, _ => by
  rw [Ei, Ie, if_neg (by rw [Af]; simp; omega)]
  simp [Oa, Yc, leB]
 | j + 1, i, q + 1, n, acc, hi, hq, ha => by
  rw [Ei, Ie, if_pos (by rw [Af]; simp; omega)]
  have e : (Ad (Yq n (256 : UInt64)) : UInt8) = UInt8.ofNat n.toNat := by
   rw [Ajd, Bcj]; apply UInt8.toNat_inj.1
   rw [UInt8.toNat_ofNat', UInt8.toNat_ofNat', UInt64.toNat_mod]
   show n.toNat % 256 % 256 = _
   omega
  have e2 : (Cu n (256 : UInt64)).toNat = n.toNat / 256 := by rw [Ap6, UInt64.toNat_div]; rfl
  rw [Gc (by simp; omega), Aa, Ag (by omega) (by omega), e]
  have h := Aru w hw j (i + 1) q (Cu n 256) (acc ++ [UInt8.ofNat n.toNat]) (by omega) (by omega) (by simp; omega)
  rw [e2] at h
  rw [show ((i : Int) + 1) = ((i + 1 : Nat) : Int) by omega, h, leB]; simp
theorem Auz (n : UInt64) (w : Nat) (hw : w ≤ 1000) : Cx n (w : Int) = some (leB n.toNat w) := by
 rw [Cx, Pa, Oh]
 have h := Aru w hw w 0 Ba n [] (by omega) (by have := Au; omega) (by simp; omega)
 simpa using h
theorem Anl {α : Type} {l m : List α} {x y : α} {i : Nat} (h : l.length = i) : (l ++ x :: m).set i y = l ++ y :: m := by subst h; simp
theorem Axp (n : UInt64) (l4 : List UInt8) (w : Nat) (hl : l4.length = w) (hw : w ≤ 8) : ∀ (j i q : Nat), i + j = w → j < q → Xu n l4 q (i : Int) (leB n.toNat i ++ List.replicate j 0) = some (leB n.toNat w, 0)
 | 0, i, q + 1, hi, _ => by
  rw [Xu, Ag0, if_neg (by rw [Af, Ac]; simp; omega)]
  obtain rfl : i = w := by omega
  simp [Amx, Asp]
 | j + 1, i, q + 1, hi, hq => by
  have hlen : (leB n.toNat i ++ List.replicate (j + 1) 0).length = i + (j + 1) := by simp [Nk]
  rw [Xu, Ag0, if_pos (by rw [Af, Ac]; simp; omega), Gz (by omega) (by omega), Cm (by rw [Cz]; simp; omega), Aa, Ds (by rw [hlen]; omega), Aa, Vz _ (by rw [hlen]; omega), Aa, Ag (by omega) (by omega)]
  have e : (Ad (Cn n (GI.toZ ((8 : Int) * (i : Int))).toNat) : UInt8) = UInt8.ofNat (n.toNat / 256 ^ i) := by
   have e : (GI.toZ ((8 : Int) * (i : Int))).toNat = 8 * i := by show ((8 : Int) * (i : Int)).toNat = _; omega
   rw [e, Ajd, Adj, Nat.pow_mul]
  rw [e, List.replicate_succ, Anl (Nk _ _)]
  have h := Axp n l4 w hl hw j (i + 1) q (by omega) (by omega)
  rw [Bbi] at h
  simpa using h
theorem Bnh (n : UInt64) (w : Nat) (h1 : 1 ≤ w) (h2 : w ≤ 8) (h : n.toNat < 256 ^ w) : As9 n (w : Int) = some true := by
 rw [As9]
 by_cases h8 : w = 8
 ·subst h8; rw [if_pos (by rw [Cg]; rfl)]
 ·rw [if_neg (by rw [Cg]; simp; omega), Gz (by omega) (by omega), Cm (by rw [Cz]; simp; omega), Aa]
  have e : (GI.toZ ((8 : Int) * (w : Int))).toNat = 8 * w := by show ((8 : Int) * (w : Int)).toNat = _; omega
  rw [e, Atc]
  have : Cn n (8 * w) = 0 := by
   apply UInt64.toNat_inj.1
   rw [Adj, Nat.pow_mul]
   exact Nat.div_eq_of_lt h
  rw [this]; rfl
theorem Bck (n : UInt64) (w : Nat) (h1 : 1 ≤ w) (h2 : w ≤ 8) (h : n.toNat < 256 ^ w) : Al5 n (w : Int) = some (leB n.toNat w, 0) := by
 rw [Al5, Amc, if_neg (by simp [Af, Bb]; omega), Bnh n w h1 h2 h, Aa, if_neg (by simp), At9 (by omega) (by omega), Aa, Cm (by rw [Cg]; simp), Aa, Al6]
 have h := Axp n (List.replicate (w : Int).toNat 0) w (by simp) h2 w 0 Ba (by omega) (by have := Au; omega)
 simpa [leB] using h
end Go.Pl
set_option linter.unusedVariables false
set_option linter.unusedSimpArgs false
namespace Go.Pl
open Go Go.Lv
theorem Bdh (n : Nat) (h : n < 4611686018427387904) : Hm (n : Int) (7 : Int) = ((n % 8 : Nat) : Int) := by
 have e : Hm (n : Int) (7 : Int) = wrap64 ((BitVec.ofInt 64 (n : Int) &&& BitVec.ofInt 64 7).toNat : Int) := rfl
 rw [e, BitVec.toNat_and, BitVec.toNat_ofInt, BitVec.toNat_ofInt]
 have h1 : ((n : Int) % ((2 ^ 64 : Nat) : Int)).toNat = n := by omega
 have h2 : ((7 : Int) % ((2 ^ 64 : Nat) : Int)).toNat = 2 ^ 3 - 1 := by decide
 rw [h1, h2, Nat.and_two_pow_sub_one_eq_mod, Bt (by omega) (by omega)]
theorem Bsb (n : Nat) : Azr (n : Int) (GI.toZ (3 : UInt64)).toNat = ((n / 8 : Nat) : Int) := by
 have e : Azr (n : Int) (GI.toZ (3 : UInt64)).toNat = (n : Int).fdiv 8 := rfl
 rw [e, Int.fdiv_eq_ediv_of_nonneg _ (by omega)]; omega
theorem Bsn {t : Nat} (h : t ≤ 8) : Ak (Fa (1 : UInt8) t) (1 : UInt8) = UInt8.ofNat (2 ^ t - 1) := by
 have : t = 0 ∨ t = 1 ∨ t = 2 ∨ t = 3 ∨ t = 4 ∨ t = 5 ∨ t = 6 ∨ t = 7 ∨ t = 8 := by omega
 rcases this with rfl | rfl | rfl | rfl | rfl | rfl | rfl | rfl | rfl <;> decide
theorem bitsOf (c : UInt8) (off t : Nat) (h : t ≤ 8) : (Hm (Cn c off) (Ak (Fa (1 : UInt8) t) (1 : UInt8))).toNat = c.toNat / 2 ^ off % 2 ^ t := by
 have hp : 2 ^ t ≤ 2 ^ 8 := Nat.pow_le_pow_right (by omega) h
 rw [Bsn h, Bnj, UInt8.toNat_and, Bfs, UInt8.toNat_ofNat', Nat.mod_eq_of_lt (by have := Nat.pow_pos (n := t) (show 0 < 2 by omega); omega), Nat.and_two_pow_sub_one_eq_mod]
theorem Awl {p : List UInt8} {k : Nat} (h : k < p.length) : getI p (k : Int) = some (p.getD k 0) := by
 rw [Ds h]; simp [List.getD_eq_getElem?_getD, h]
def Ud (p : List UInt8) (a n : Nat) : UInt64 := UInt64.ofNat (Bs p a n)
theorem Aao (p : List UInt8) (a n : Nat) (h : n ≤ 64) : (Ud p a n).toNat = Bs p a n := by
 have h1 := Qh p n a
 have h2 : 2 ^ n ≤ 2 ^ 64 := Nat.pow_le_pow_right (by omega) h
 rw [Ud, UInt64.toNat_ofNat', Nat.mod_eq_of_lt (by omega)]
theorem Ba4 (p : List UInt8) (N : Int) (a n : Nat) (hn : n ≤ 64) (ha : a + n ≤ 8 * p.length) (hp : p.length ≤ 1000000) : ∀ (j h q : Nat), h + j = n → j < q → Ada (a : Int) (n : Int) p N q (Ud p a h) (h : Int) = some (Ud p a n)
 | j, h, q + 1, hj, hq => by
  rw [Ada, Al4]
  by_cases hlt : h < n
  ·have e1 : Ae (a : Int) (h : Int) = ((a + h : Nat) : Int) := by rw [Ag (by omega) (by omega)]; omega
   have e2 : Gd (Ak (n : Int) (h : Int)) (Ak (8 : Int) (((a + h) % 8 : Nat) : Int)) = ((min (n - h) (8 - (a + h) % 8) : Nat) : Int) := by
    rw [Ahu, Bg (by omega) (by omega), Bg (by omega) (by omega)]; omega
   have hm : (a + h) / 8 < p.length := by omega
   rw [if_pos (by rw [Af]; simp; omega), e1, Bsb, Awl hm, Aa, Bdh _ (by omega), Cm (by rw [Cz]; simp; omega), Aa, e2, Cm (by rw [Cz]; simp), Aa, Cm (by rw [Cz]; simp), Aa]
   generalize hT : min (n - h) (8 - (a + h) % 8) = T
   have hT8 : T ≤ 8 := by omega
   have hT1 : 1 ≤ T := by omega
   have hb : (a + h) % 8 + T ≤ 8 := by omega
   have hv := Ari p (a + h) T hb
   have z1 : (GI.toZ (((a + h) % 8 : Nat) : Int)).toNat = (a + h) % 8 := rfl
   have z2 : (GI.toZ ((T : Nat) : Int)).toNat = T := rfl
   have z3 : (GI.toZ ((h : Nat) : Int)).toNat = h := rfl
   rw [z1, z2, z3]
   have hx : (Ad (Hm (Cn (p.getD ((a + h) / 8) 0) ((a + h) % 8)) (Ak (Fa (1 : UInt8) T) (1 : UInt8))) : UInt64).toNat = Bs p (a + h) T := by
    rw [Ao3, UInt64.toNat_ofNat', bitsOf _ _ _ hT8, ← hv]
    have := Qh p T (a + h)
    have h2 : 2 ^ T ≤ 2 ^ 8 := Nat.pow_le_pow_right (by omega) hT8
    omega
   have hlt2 := Qh p (h + T) a
   rw [Agr] at hlt2
   have h64 : 2 ^ (h + T) ≤ 2 ^ 64 := Nat.pow_le_pow_right (by omega) (by omega)
   have hor : gor (Ud p a h) (Fa (Ad (Hm (Cn (p.getD ((a + h) / 8) 0) ((a + h) % 8)) (Ak (Fa (1 : UInt8) T) (1 : UInt8))) : UInt64) h) = Ud p a (h + T) := by
    rw [Bkl (by rw [Aao p a h (by omega)]; exact Qh p h a) (by rw [hx, Nat.mul_comm]; omega), hx, Aao p a h (by omega), Ud, Agr, Nat.mul_comm (2 ^ h)]
   rw [hor, Ag (by omega) (by omega), show (h : Int) + ((T : Nat) : Int) = ((h + T : Nat) : Int) by omega]
   exact Ba4 p N a n hn ha hp (j - T) (h + T) q (by omega) (by omega)
  ·rw [if_neg (by rw [Af]; simp; omega), show h = n by omega]; rfl
theorem get_eq (p : List UInt8) (N : Int) (a n : Nat) (hn : n ≤ 64) (ha : a + n ≤ 8 * p.length) (hp : p.length ≤ 1000000) : Apn p N (a : Int) (n : Int) = some (Ud p a n) := by
 have := Ba4 p N a n hn ha hp n 0 Ba (by omega) (by have := Au; omega)
 exact this
theorem Ae2 {p : List UInt8} {n : Nat} (h : okB p n) : Pn p (n : Int) = some 0 := by
 obtain ⟨h1, h2, h3⟩ := h
 have e7 : Ae (n : Int) 7 = ((n + 7 : Nat) : Int) := by rw [Ag (by omega) (by omega)]; omega
 rw [Pn, e7, Bsb, if_neg (by simp [Af, Bb, Am, Ac, h2]; omega), Bdh _ (by omega)]
 by_cases hz : n % 8 = 0
 ·rw [if_neg (by rw [Bb]; simp; omega)]
 ·have el : Ak (Ac p) 1 = ((p.length - 1 : Nat) : Int) := by rw [Ac, Bg (by omega) (by omega)]; omega
  rw [if_pos (by rw [Bb]; simp; omega), el, Awl (by omega), Aa, Cm (by rw [Cz]; simp; omega), Aa]
  have z : (GI.toZ ((n % 8 : Nat) : Int)).toNat = n % 8 := rfl
  have hs : Cn (p.getD (p.length - 1) 0) (n % 8) = 0 := by
   apply UInt8.toNat_inj.1
   rw [Bfs]
   have hv := Ari p n (8 - n % 8) (by omega)
   have h0 : Bs p n (8 - n % 8) = 0 := Axu _ _ fun k hk => h3 _ (by omega) (by omega)
   rw [h0, show n / 8 = p.length - 1 by omega] at hv
   have hlt : (p.getD (p.length - 1) 0).toNat / 2 ^ (n % 8) < 2 ^ (8 - n % 8) := by
    have := (p.getD (p.length - 1) 0).toNat_lt
    rw [Nat.div_lt_iff_lt_mul (Nat.pow_pos (by omega)), ← Nat.pow_add, show 8 - n % 8 + n % 8 = 8 by omega]; simpa using this
   rw [Nat.mod_eq_of_lt hlt] at hv
   exact hv.symm
  rw [z, hs, if_neg (by rw [Beq]; simp)]
theorem Aq2 {p : List UInt8} {N : Nat} (h : okB p N) (a n : Nat) (hn : n ≤ 64) : Yu p (N : Int) (a : Int) (n : Int) = some (if N < a + n then (0, 24) else (Ud p a n, 0)) := by
 obtain ⟨h1, h2, h3⟩ := h
 rw [Yu, Ae2 ⟨h1, h2, h3⟩, Aa, if_neg (by rw [Am]; simp), if_neg (by simp [Af, Bb]; omega), Bg (by omega) (by omega)]
 by_cases hl : N < a + n
 ·rw [if_pos (by rw [Bb]; simp; omega), if_pos hl]
 ·rw [if_neg (by rw [Bb]; simp; omega), get_eq p N a n hn (by omega) (by omega), Aa, if_neg hl]
end Go.Pl
set_option linter.unusedVariables false
set_option linter.unusedSimpArgs false
namespace Go.Pl
open Go Go.Lv
theorem Bst (c : Nat) (h : c < 4611686018427387904) : Cu (c : Int) (2 : Int) = ((c / 2 : Nat) : Int) := by
 rw [Adu, Int.tdiv_eq_ediv_of_nonneg (by omega), Bt (by omega) (by omega)]; omega
theorem Brq (c : Nat) (h : c < 4611686018427387904) : Cu (c : Int) (8 : Int) = ((c / 8 : Nat) : Int) := by
 rw [Adu, Int.tdiv_eq_ediv_of_nonneg (by omega), Bt (by omega) (by omega)]; omega
theorem Bj3 (c : Nat) : It (c : Int) (8 : Int) = ((c % 8 : Nat) : Int) := by rw [It, Int.tmod_eq_emod_of_nonneg (by omega)]; omega
theorem Bsu (c : Nat) : It (c : Int) (2 : Int) = ((c % 2 : Nat) : Int) := by rw [It, Int.tmod_eq_emod_of_nonneg (by omega)]; omega
theorem Bfk (i c : Nat) (hc : c < 256) : ∀ (j k q : Nat), k + j = i % 8 → j < q → Hr (i : Int) q ((c / 2 ^ k : Nat) : Int) (k : Int) = some (((c / 2 ^ (i % 8) % 2 : Nat) : Int))
 | 0, k, q + 1, hk, _ => by
  rw [Hr, Pw, Bj3, if_neg (by rw [Af]; simp; omega), Xh, Aga, Bsu, show k = i % 8 by omega]
 | j + 1, k, q + 1, hk, hq => by
  have hle : c / 2 ^ k ≤ c := Nat.div_le_self _ _
  rw [Hr, Pw, Bj3, if_pos (by rw [Af]; simp; omega), Bst _ (by omega), Ag (by omega) (by omega), Nat.div_div_eq_div_mul, ← Nat.pow_succ]
  exact Bfk i c hc j (k + 1) q (by omega) (by omega)
theorem Aqu (p : List UInt8) (N : Int) (i : Nat) (h : i / 8 < p.length) (hi : i < 4611686018427387904) : Gy p N (i : Int) = some ((Io p i : Nat) : Int) := by
 have hc := (p.getD (i / 8) 0).toNat_lt
 have := Bfk i (p.getD (i / 8) 0).toNat (by simpa using hc) (i % 8) 0 Ba (by omega) (by have := Au; omega)
 rw [Gy, Xq, Brq _ hi, Awl h, Aa, Ae5, Xp]
 simpa [Io] using this
theorem Auf (p : List UInt8) (N : Int) (a n : Nat) (ha : a + n ≤ 8 * p.length) (hp : p.length ≤ 1000000) : ∀ (j q : Nat), j ≤ n → j < q → Fl (a : Int) p N q (Ud p (a + j) (n - j)) ((j : Int) - 1) = some (Ud p a n)
 | 0, q + 1, _, _ => by
  rw [Fl, Kz, if_neg (by rw [Cz]; simp)]; rfl
 | j + 1, q + 1, hj, hq => by
  have hb := Wp p (a + j)
  rw [Fl, Kz, show ((j + 1 : Nat) : Int) - 1 = (j : Int) by omega, if_pos (by rw [Cz]; simp), Ag (a := (a : Int)) (by omega) (by omega), show (a : Int) + (j : Int) = ((a + j : Nat) : Int) by omega, Aqu p N (a + j) (by omega) (by omega), Aa, Bg (by omega) (by omega)]
  have e : Ae (Bj (2 : UInt64) (Ud p (a + (j + 1)) (n - (j + 1)))) (Ad ((Io p (a + j) : Nat) : Int) : UInt64) = Ud p (a + j) (n - j) := by
   rw [Acp, Ac8, Xt, Ud, Ud, show n - j = (n - (j + 1)) + 1 by omega, Bs, show a + j + 1 = a + (j + 1) by omega, UInt64.ofNat_add, UInt64.ofNat_mul]
   exact UInt64.add_comm _ _
  rw [e]
  exact Auf p N a n ha hp j q (by omega) (by omega)
theorem Ao9 (p : List UInt8) (N : Int) (a n : Nat) (ha : a + n ≤ 8 * p.length) (hp : p.length ≤ 1000000) : Jv p N (a : Int) (n : Int) = some (Ud p a n) := by
 have := Auf p N a n ha hp n Ba (Nat.le_refl _) (by have := Au; omega)
 have hz : Ud p (a + n) (n - n) = 0 := by rw [Nat.sub_self]; rfl
 rw [hz] at this
 rw [Jv, Rm, Rq, Bg (by omega) (by omega)]
 exact this
theorem Bgo (bit : Int) (N : Nat) (l : List UInt8) : ∀ (j k q : Nat), k + j = N % 8 → j < q → Gp bit (N : Int) l q ((2 ^ k : Nat) : Int) (k : Int) = Nv bit ((2 ^ (N % 8) : Nat) : Int) (N : Int) l
 | 0, k, q + 1, hk, _ => by
  rw [Gp, Ni, Bj3, if_neg (by rw [Af]; simp; omega), show k = N % 8 by omega]
 | j + 1, k, q + 1, hk, hq => by
  have hp : 2 ^ k ≤ 2 ^ 8 := Nat.pow_le_pow_right (by omega) (by omega)
  have e : Bj ((2 ^ k : Nat) : Int) 2 = ((2 ^ (k + 1) : Nat) : Int) := by
   rw [Nat.pow_succ]
   generalize 2 ^ k = K at *
   rw [Gz (by omega) (by omega)]; omega
  rw [Gp, Ni, Bj3, if_pos (by rw [Af]; simp; omega), e, Ag (by omega) (by omega)]
  exact Bgo bit N l j (k + 1) q (by omega) (by omega)
theorem Av5 (p : List UInt8) (a n j : Nat) (h : j < (n + 7) / 8) : (Abk p a n)[j]'(by rw [Ls]; exact h) = UInt8.ofNat (Bs p (a + 8 * j) (min 8 (n - 8 * j))) := by simp [Abk]
theorem Bdb (p : List UInt8) (a t : Nat) (h : t ≤ 8) : Bs p a t < 256 := by
 have h1 := Qh p t a
 have h2 : 2 ^ t ≤ 2 ^ 8 := Nat.pow_le_pow_right (by omega) h
 omega
def room (p : List UInt8) (a n : Nat) : List UInt8 := if n % 8 = 0 then Abk p a n ++ [0] else Abk p a n
theorem Wg (p : List UInt8) (a n : Nat) : (room p a n).length = n / 8 + 1 := by
 rw [room]; split <;> simp [Ls] <;> omega
theorem Bc3 (p : List UInt8) (a n j : Nat) (h : j < n / 8 + 1) : (room p a n)[j]'(by rw [Wg]; exact h) = UInt8.ofNat (Bs p (a + 8 * j) (min 8 (n - 8 * j))) := by
 have h0 : (room p a n)[j]? = some (UInt8.ofNat (Bs p (a + 8 * j) (min 8 (n - 8 * j)))) := by
  rw [room]
  split
  ·by_cases hj : j < (n + 7) / 8
   ·rw [List.getElem?_append_left (by rw [Ls]; exact hj), List.getElem?_eq_getElem (by rw [Ls]; exact hj), Av5 p a n j hj]
   ·rw [List.getElem?_append_right (by rw [Ls]; omega), Ls, show j - (n + 7) / 8 = 0 by omega, show n - 8 * j = 0 by omega]; rfl
  ·rw [List.getElem?_eq_getElem (by rw [Ls]; omega), Av5 p a n j (by omega)]
 rw [List.getElem?_eq_getElem (by rw [Wg]; exact h)] at h0
 exact Option.some.inj h0
theorem Ba8 (p : List UInt8) (a n T : Nat) (h1 : 1 ≤ T) (h : n % 8 + T ≤ 8) : (room p a n).set (n / 8) (UInt8.ofNat (Bs p (a + 8 * (n / 8)) (n % 8 + T))) = Abk p a (n + T) := by
 apply List.ext_getElem (by rw [List.length_set, Wg, Ls]; omega)
 intro j g1 g2
 rw [List.length_set, Wg] at g1
 rw [List.getElem_set, Av5 p a (n + T) j (by rw [Ls] at g2; exact g2)]
 split
 ·rename_i e; subst e; rw [show min 8 (n + T - 8 * (n / 8)) = n % 8 + T by omega]
 ·rw [Bc3 p a n j g1, show min 8 (n - 8 * j) = 8 by omega, show min 8 (n + T - 8 * j) = 8 by omega]
theorem Axf (p : List UInt8) (a n : Nat) : (room p a n)[n / 8]'(by rw [Wg]; omega) = UInt8.ofNat (Bs p (a + 8 * (n / 8)) (n % 8)) := by
 rw [Bc3 p a n _ (by omega), show min 8 (n - 8 * (n / 8)) = n % 8 by omega]
theorem Bjl (p : List UInt8) (a n : Nat) (hn : n ≤ 400000) : Oz (Abk p a n) (n : Int) ((Io p (a + n) : Nat) : Int) = some (Abk p a (n + 1), ((n + 1 : Nat) : Int)) := by
 have hb := Wp p (a + n)
 have hp : 2 ^ (n % 8) ≤ 2 ^ 7 := Nat.pow_le_pow_right (by omega) (by omega)
 have hroom : Oz (Abk p a n) (n : Int) ((Io p (a + n) : Nat) : Int) = Nl ((Io p (a + n) : Nat) : Int) (n : Int) (room p a n) := by
  rw [Oz, Vq, Bj3, room]
  by_cases h0 : n % 8 = 0
  ·rw [if_pos (by rw [Cg, h0]; rfl), Gc (by rw [Ls]; simp; omega), Aa, if_pos h0]
  ·rw [if_neg (by rw [Cg]; simp; omega), if_neg h0]
 have hl := Bgo ((Io p (a + n) : Nat) : Int) n (room p a n) (n % 8) 0 Ba (by omega) (by have := Au; omega)
 rw [hroom, Nl, We, Vt]
 refine Eq.trans hl ?_
 have hg : getI (room p a n) ((n / 8 : Nat) : Int) = some (UInt8.ofNat (Bs p (a + 8 * (n / 8)) (n % 8))) := by
  rw [Ds (by rw [Wg]; omega), Axf]
 have hlt := Bdb p (a + 8 * (n / 8)) (n % 8 + 1) (by omega)
 have hsn := Axg p (a + 8 * (n / 8)) (n % 8)
 rw [show a + 8 * (n / 8) + n % 8 = a + n by omega] at hsn
 have hm : Bj ((Io p (a + n) : Nat) : Int) ((2 ^ (n % 8) : Nat) : Int) = ((2 ^ (n % 8) * Io p (a + n) : Nat) : Int) := by
  have hle : 2 ^ (n % 8) * Io p (a + n) ≤ 2 ^ 7 * 1 := Nat.mul_le_mul hp (by omega)
  rw [Bmb, ← Int.natCast_mul, Bt (by omega) (by rw [Nat.mul_comm]; omega), Nat.mul_comm]
 have hx : Ae (UInt8.ofNat (Bs p (a + 8 * (n / 8)) (n % 8))) (Ad (((2 ^ (n % 8) * Io p (a + n) : Nat) : Int)) : UInt8) = UInt8.ofNat (Bs p (a + 8 * (n / 8)) (n % 8 + 1)) := by
  rw [Bn6, Bmn, hsn, UInt8.ofNat_add]
 rw [Nv, Aef, Brq _ (by omega), hg, Aa, Aa, Aa, hm, hx, Vz _ (by rw [Wg]; omega), Aa, Ba8 p a n 1 (by omega) (by omega), Ag (by omega) (by omega)]; rfl
theorem Ap9 (p : List UInt8) (N : Int) (a n : Nat) (ha : a + n ≤ 8 * p.length) (hp : p.length ≤ 1000000) (hn : n ≤ 300000) : ∀ (j m q : Nat), m + j = n → j < q → El ((a + n : Nat) : Int) p N q ((a + m : Nat) : Int) (m : Int) (Abk p a m) = some (Abk p a n, (n : Int))
 | 0, m, q + 1, hm, _ => by
  rw [El, Ih, if_neg (by rw [Af]; simp; omega), show m = n by omega]; rfl
 | j + 1, m, q + 1, hm, hq => by
  rw [El, Ih, if_pos (by rw [Af]; simp; omega), Aqu p N (a + m) (by omega) (by omega), Aa, Bjl p a m (by omega), Aa]
  simp only
  rw [Ag (by omega) (by omega)]
  exact Ap9 p N a n ha hp hn j (m + 1) q (by omega) (by omega)
theorem Bbs (p : List UInt8) (N : Int) (a n : Nat) (ha : a + n ≤ 8 * p.length) (hp : p.length ≤ 1000000) (hn : n ≤ 300000) : Ux p N (a : Int) ((a + n : Nat) : Int) = some (Abk p a n, (n : Int)) := by
 have := Ap9 p N a n ha hp hn n 0 Ba (by omega) (by have := Au; omega)
 exact this
end Go.Pl
set_option linter.unusedVariables false
set_option linter.unusedSimpArgs false
namespace Go.Pl
open Go Go.Lv
theorem Brc {t : Nat} (h : t ≤ 8) : Ak (Fa (1 : UInt64) t) (1 : UInt64) = UInt64.ofNat (2 ^ t - 1) := by
 have : t = 0 ∨ t = 1 ∨ t = 2 ∨ t = 3 ∨ t = 4 ∨ t = 5 ∨ t = 6 ∨ t = 7 ∨ t = 8 := by omega
 rcases this with rfl | rfl | rfl | rfl | rfl | rfl | rfl | rfl | rfl <;> decide
theorem Bs7 (v : UInt64) {t : Nat} (h : t ≤ 8) : (Hm v (Ak (Fa (1 : UInt64) t) (1 : UInt64))).toNat = v.toNat % 2 ^ t := by
 have hp : 2 ^ t ≤ 2 ^ 8 := Nat.pow_le_pow_right (by omega) h
 rw [Brc h, Awb, UInt64.toNat_and, UInt64.toNat_ofNat', Nat.mod_eq_of_lt (by have := Nat.pow_pos (n := t) (show 0 < 2 by omega); omega), Nat.and_two_pow_sub_one_eq_mod]
theorem or8 {v w i : Nat} (hv : v < 2 ^ i) (hw : w * 2 ^ i < 256) (hi : i < 8) : gor (UInt8.ofNat v) (Fa (UInt8.ofNat w) i) = UInt8.ofNat (v + w * 2 ^ i) := by
 have hp : 2 ^ i ≤ 2 ^ 8 := Nat.pow_le_pow_right (by omega) (by omega)
 have hpos : 0 < 2 ^ i := Nat.pow_pos (by omega)
 have hw2 : w < 256 := Nat.lt_of_le_of_lt (Nat.le_mul_of_pos_right w hpos) hw
 rw [Bqe]; apply UInt8.toNat_inj.1
 have e1 : (UInt8.ofNat v).toNat = v := by rw [UInt8.toNat_ofNat', Nat.mod_eq_of_lt (by omega)]
 have e2 : (UInt8.ofNat w).toNat = w := by rw [UInt8.toNat_ofNat', Nat.mod_eq_of_lt (by omega)]
 rw [UInt8.toNat_or, Bn4, e1, e2, Nat.mod_eq_of_lt hw, Nat.mul_comm w, Nat.or_comm, ← Nat.two_pow_add_eq_or_of_lt hv, UInt8.toNat_ofNat', Nat.add_comm v]
 rw [Nat.mul_comm] at hw
 have hb : 2 ^ i * w + v < 256 := by
  rw [Nat.two_pow_add_eq_or_of_lt hv]
  exact Nat.or_lt_two_pow (n := 8) hw (by omega)
 rw [Nat.mod_eq_of_lt hb]
theorem Bj1 (p : List UInt8) (a n T : Nat) (h : T ≤ n) (hn : n ≤ 64) : Cn (Ud p a n) T = Ud p (a + T) (n - T) := by
 apply UInt64.toNat_inj.1
 rw [Adj, Aao p a n hn, Aao p (a + T) (n - T) (by omega)]
 have := Qh p T a
 conv => lhs; rw [show n = T + (n - T) by omega, Agr, Nat.add_mul_div_left _ _ (Nat.pow_pos (by omega)), Nat.div_eq_of_lt this, Nat.zero_add]
theorem Bmu (p : List UInt8) (a n T : Nat) (h : T ≤ n) (hn : n ≤ 64) : (Ud p a n).toNat % 2 ^ T = Bs p a T := by
 have := Qh p T a
 rw [Aao p a n hn]
 conv => lhs; rw [show n = T + (n - T) by omega, Agr, Nat.add_mul_mod_self_left, Nat.mod_eq_of_lt this]
theorem Auq (bk : Int → Int → List UInt8 → Option (List UInt8 × Int × Int)) (to' : Int) (p : List UInt8) (N fr : Int) (r6 : UInt64) (a : Nat) : ∀ (j m q : Nat), m + j ≤ 300000 → j ≤ 64 → j < q →
  Mo bk to' p N fr r6 q (Ud p (a + m) j) (j : Int) (m : Int) (Abk p a m) = Aep bk to' p N fr ((m + j : Nat) : Int) (Abk p a (m + j))
 | 0, m, q + 1, _, _, _ => by
  rw [Mo, Aey, if_neg (by rw [Bb]; simp)]; rfl
 | j + 1, m, q + 1, hm, hj, hq => by
  have hroom : Mo bk to' p N fr r6 (q + 1) (Ud p (a + m) (j + 1)) ((j + 1 : Nat) : Int) (m : Int) (Abk p a m) = Aev (Mo bk to' p N fr r6 q) to' fr p N r6 (Ud p (a + m) (j + 1)) ((j + 1 : Nat) : Int) (m : Int) (room p a m) := by
   rw [Mo, Aey, if_pos (by rw [Bb]; simp), Bdh m (by omega), room]
   by_cases h0 : m % 8 = 0
   ·rw [if_pos (by rw [Cg, h0]; rfl), Gc (by rw [Ls]; simp; omega), Aa, if_pos h0]
   ·rw [if_neg (by rw [Cg]; simp; omega), if_neg h0]
  have hl : Ak (Ac (room p a m)) 1 = ((m / 8 : Nat) : Int) := by
   rw [Ac, Wg, Bg (by omega) (by omega)]; omega
  have e2 : Gd ((j + 1 : Nat) : Int) (Ak (8 : Int) ((m % 8 : Nat) : Int)) = ((min (j + 1) (8 - m % 8) : Nat) : Int) := by
   rw [Ahu, Bg (by omega) (by omega)]; omega
  rw [hroom, Aev, Aj7, Bdh m (by omega), e2, hl]
  generalize hT : min (j + 1) (8 - m % 8) = T
  have hT1 : 1 ≤ T := by omega
  have hT8 : m % 8 + T ≤ 8 := by omega
  have hg : getI (room p a m) ((m / 8 : Nat) : Int) = some (UInt8.ofNat (Bs p (a + 8 * (m / 8)) (m % 8))) := by
   rw [Ds (by rw [Wg]; omega), Axf]
  have z1 : (GI.toZ ((m % 8 : Nat) : Int)).toNat = m % 8 := rfl
  have z2 : (GI.toZ ((T : Nat) : Int)).toNat = T := rfl
  have hlt := Bdb p (a + 8 * (m / 8)) (m % 8 + T) (by omega)
  have hadd := Agr p (m % 8) T (a + 8 * (m / 8))
  rw [show a + 8 * (m / 8) + m % 8 = a + m by omega] at hadd
  have hbyte : (Ad (Hm (Ud p (a + m) (j + 1)) (Ak (Fa (1 : UInt64) T) (1 : UInt64))) : UInt8) = UInt8.ofNat (Bs p (a + m) T) := by
   rw [Ajd, Bs7 _ (by omega), Bmu p (a + m) (j + 1) T (by omega) hj]
  have hnew : gor (UInt8.ofNat (Bs p (a + 8 * (m / 8)) (m % 8))) (Fa (UInt8.ofNat (Bs p (a + m) T)) (m % 8)) = UInt8.ofNat (Bs p (a + 8 * (m / 8)) (m % 8 + T)) := by
   rw [or8 (Qh _ _ _) (by rw [Nat.mul_comm]; omega) (by omega), hadd, Nat.mul_comm (2 ^ (m % 8))]
  rw [hg, z1, z2, hbyte]
  simp only [Aa]
  rw [Cm (by rw [Cz]; simp), Aa, Cm (by rw [Cz]; simp; omega), Aa, hnew, Vz _ (by rw [Wg]; omega), Aa, Ba8 p a m T hT1 hT8, Akq, Aph, Bdh m (by omega), e2, hT, Cm (by rw [Cz]; simp), Aa, z2, Bj1 p (a + m) (j + 1) T (by omega) hj, Bg (by omega) (by omega), Ag (by omega) (by omega)]
  have ih := Auq bk to' p N fr r6 a (j + 1 - T) (m + T) q (by omega) (by omega) (by omega)
  rw [show m + T + (j + 1 - T) = m + (j + 1) by omega] at ih
  rw [← ih, show a + m + T = a + (m + T) by omega, show ((j + 1 : Nat) : Int) - ((T : Nat) : Int) = ((j + 1 - T : Nat) : Int) by omega, show (m : Int) + ((T : Nat) : Int) = ((m + T : Nat) : Int) by omega]
theorem Bc6 (p : List UInt8) (N : Int) (a n : Nat) (ha : a + n ≤ 8 * p.length) (hp : p.length ≤ 1000000) (hn : n ≤ 300000) : ∀ (j m f q : Nat), (f = m ∨ n ≤ f ∧ m = n) → m + j = n → f ≤ n + 64 → j < q → Vj ((a + n : Nat) : Int) p N q ((a + f : Nat) : Int) (m : Int) (Abk p a m) = some (Abk p a n, (n : Int), 0)
 | j, m, f, q + 1, hf, hm, hf2, hq => by
  rw [Vj, Aje]
  by_cases hlt : f < n
  ·obtain rfl : f = m := by omega
   have e1 : Gd (64 : Int) (Ak ((a + n : Nat) : Int) ((a + f : Nat) : Int)) = ((min 64 (n - f) : Nat) : Int) := by
    rw [Ahu, Bg (by omega) (by omega)]; omega
   rw [if_pos (by rw [Af]; simp; omega), e1, get_eq p N (a + f) _ (by omega) (by omega) hp, Aa, Akb]
   have h1 := Auq (Vj ((a + n : Nat) : Int) p N q) ((a + n : Nat) : Int) p N ((a + f : Nat) : Int) (Ud p (a + f) (min 64 (n - f))) a (min 64 (n - f)) f Ba (by omega) (by omega) (by have := Au; omega)
   refine Eq.trans h1 ?_
   rw [Aep, Aqi, Ag (by omega) (by omega), show ((a + f : Nat) : Int) + 64 = ((a + (f + 64) : Nat) : Int) by omega]
   exact Bc6 p N a n ha hp hn (j - min 64 (n - f)) (f + min 64 (n - f)) (f + 64) q (by omega) (by omega) (by omega) (by omega)
  ·rw [if_neg (by rw [Af]; simp; omega), Aj1, Ap0, show m = n by omega]
theorem Bqv {p : List UInt8} {N : Nat} (h : okB p N) (a n : Nat) (ha : a + n ≤ N) (hn : n ≤ 300000) : Al7 p (N : Int) (a : Int) ((a + n : Nat) : Int) = some (Abk p a n, (n : Int), 0) := by
 obtain ⟨h1, h2, h3⟩ := h
 have := Bc6 p N a n (by omega) (by omega) hn n 0 0 Ba (by omega) (by omega) (by omega) (by have := Au; omega)
 rw [Al7, Alq, Ae2 ⟨h1, h2, h3⟩, Aa, if_neg (by rw [Am]; simp), if_neg (by simp [Af, Bb]; omega), Aj5]
 exact this
end Go.Pl
set_option linter.unusedVariables false
set_option linter.unusedSimpArgs false
namespace Go.Pl
open Go Go.Lv
def Ez (p : List UInt8) : Nat → Nat → Nat
 | _, 0 => 0
 | a, m + 1 => if Io p a = 1 then 1 + Ez p (a + 1) m else 0
theorem Ag9 (p : List UInt8) : ∀ (m a : Nat), Ez p a m ≤ m
 | 0, _ => Nat.le_refl _
 | m + 1, a => by rw [Ez]; split <;> have := Ag9 p m (a + 1) <;> omega
theorem Bb5 (p : List UInt8) : ∀ (m a : Nat), ∃ s, Bs p a m + 1 = 2 ^ (Ez p a m + 1) * s + 2 ^ Ez p a m ∧ (Ez p a m = m → s = 0)
 | 0, a => ⟨0, by simp [Bs, Ez], fun _ => rfl⟩
 | m + 1, a => by
  have hb := Wp p a
  obtain ⟨s, h1, h2⟩ := Bb5 p m (a + 1)
  by_cases h : Io p a = 1
  ·refine ⟨s, ?_, fun e => h2 ?_⟩
   ·rw [Ez, if_pos h, Bs, h, show 1 + Ez p (a + 1) m + 1 = (Ez p (a + 1) m + 1) + 1 by omega, show 1 + Ez p (a + 1) m = Ez p (a + 1) m + 1 by omega, Nat.pow_succ, Nat.pow_succ (n := 2) (m := Ez p (a + 1) m)]
    rw [Nat.pow_succ] at h1
    generalize Bs p (a + 1) m = V at *
    generalize 2 ^ Ez p (a + 1) m = W at *
    have e1 : W * 2 * 2 * s = 2 * (W * 2 * s) := by rw [Nat.mul_right_comm (W * 2) 2 s, Nat.mul_comm]
    omega
   ·rw [Ez, if_pos h] at e; omega
  ·refine ⟨Bs p (a + 1) m, ?_, fun e => ?_⟩
   ·rw [Ez, if_neg h, Bs]; simp; omega
   ·rw [Ez, if_neg h] at e; omega
theorem Boz {n t s : Nat} (h : 2 ^ (t + 1) * s + 2 ^ t ≤ 2 ^ n) (ht : t < n) (x : Nat) (hx : x = 2 ^ n - (2 ^ (t + 1) * s + 2 ^ t)) : x &&& (2 ^ (t + 1) * s + 2 ^ t) = 2 ^ t := by
 have hpos : 0 < 2 ^ t := Nat.pow_pos (by omega)
 have hlt : 2 ^ t < 2 ^ (t + 1) := by rw [Nat.pow_succ]; omega
 have e : x = 2 ^ n - ((2 ^ (t + 1) * s + (2 ^ t - 1)) + 1) := by rw [hx]; congr 1; omega
 apply Nat.eq_of_testBit_eq
 intro i
 rw [Nat.testBit_and, e, Nat.testBit_two_pow_sub_succ (by omega), Nat.testBit_two_pow_mul_add _ (by omega), Nat.testBit_two_pow_mul_add _ hlt]
 by_cases hi : i < t + 1
 ·rw [if_pos hi, if_pos hi, Nat.testBit_two_pow_sub_one, Nat.testBit_two_pow]
  by_cases hit : t = i
  ·subst hit; simp; exact ht
  ·have : ¬ i = t := fun e => hit e.symm
   simp [hit]
 ·rw [if_neg hi, if_neg hi, Nat.testBit_two_pow]
  have : ¬ t = i := by omega
  simp [this]
theorem Bmg (a : UInt64) : (Atr a).toNat = 18446744073709551615 - a.toNat := by
 have h := a.toNat_lt
 have e : Atr a = UInt64.ofNat (BitVec.ofInt 64 18446744073709551615 ^^^ BitVec.ofInt 64 (a.toNat : Int)).toNat := Ga _
 have h1 : BitVec.ofInt 64 (a.toNat : Int) = a.toBitVec := Ay8 a
 have h2 : (BitVec.ofInt 64 18446744073709551615 : BitVec 64) = BitVec.allOnes 64 := by decide
 rw [e, UInt64.toNat_ofNat', h1, h2, BitVec.allOnes_xor, BitVec.toNat_not]
 show (18446744073709551616 - 1 - a.toNat) % 18446744073709551616 = 18446744073709551615 - a.toNat
 omega
theorem Bju (a : UInt64) : (Aqk a).toNat = (18446744073709551616 - a.toNat) % 18446744073709551616 := by
 have h := a.toNat_lt
 have e : Aqk a = UInt64.ofNat ((0 - (a.toNat : Int)) % 18446744073709551616).toNat := Ay6 _
 rw [e, UInt64.toNat_ofNat']
 show ((0 - (a.toNat : Int)) % 18446744073709551616).toNat % 18446744073709551616 = _
 omega
def Brp : List UInt8 := [0, 1, 56, 2, 57, 49, 28, 3, 61, 58, 42, 50, 38, 29, 17, 4, 62, 47, 59, 36, 45, 43, 51, 22, 53, 39, 33, 30, 24, 18, 12, 5, 63, 55, 48, 27, 60, 41, 37, 16, 46, 35, 44, 21, 52, 32, 23, 11, 54, 26, 40, 15, 34, 20, 31, 10, 25, 14, 19, 9, 13, 8, 7, 6]
theorem Bhs : ∀ t : Fin 64, getI Brp (GI.toZ (Cn (Bj (UInt64.ofNat (2 ^ t.val)) (285870213051353865 : UInt64)) (GI.toZ (58 : UInt64)).toNat)) = some (UInt8.ofNat t.val) := by decide +kernel
theorem Brs (x : UInt64) (t s : Nat) (ht : t < 64) (h : x.toNat + (2 ^ (t + 1) * s + 2 ^ t) = 18446744073709551616) : Ex x = some (t : Int) := by
 have hpos : 0 < 2 ^ t := Nat.pow_pos (by omega)
 have hx : x.toNat = 2 ^ 64 - (2 ^ (t + 1) * s + 2 ^ t) := by show x.toNat = 18446744073709551616 - _; omega
 have hle : 2 ^ t ≤ 2 ^ 63 := Nat.pow_le_pow_right (by omega) (by omega)
 have hne : x ≠ 0 := by
  intro e
  rw [e] at h
  have h' : 2 ^ t * (2 * s + 1) = 2 ^ 64 := by
   rw [Nat.mul_add, Nat.mul_one, ← Nat.mul_assoc, ← Nat.pow_succ]
   show _ = 18446744073709551616
   simpa using h
  have h2 : 2 ^ 64 = 2 ^ t * 2 ^ (64 - t) := by rw [← Nat.pow_add]; congr 1; omega
  rw [h2] at h'
  have h3 := Nat.eq_of_mul_eq_mul_left hpos h'
  rw [show 64 - t = (63 - t) + 1 by omega, Nat.pow_succ] at h3
  omega
 have hx0 : x.toNat ≠ 0 := fun e => hne (UInt64.toNat_inj.1 e)
 have hl : Hm x (Aqk x) = UInt64.ofNat (2 ^ t) := by
  apply UInt64.toNat_inj.1
  rw [Awb, UInt64.toNat_and, Bju, show (18446744073709551616 - x.toNat) % 18446744073709551616 = 2 ^ (t + 1) * s + 2 ^ t by omega, Boz (n := 64) (by show _ ≤ 18446744073709551616; omega) ht _ hx, UInt64.toNat_ofNat', Nat.mod_eq_of_lt]
  exact Nat.lt_of_le_of_lt hle (by decide)
 have hb := Bhs ⟨t, ht⟩
 rw [Ex, if_neg (by rw [Atc]; simpa using hne), hl]
 refine Eq.trans (congrArg (fun o => Option.bind o fun c => some (Ad c : Int)) hb) ?_
 rw [Aa, Ae5, UInt8.toNat_ofNat', Nat.mod_eq_of_lt (by show t < 256; omega)]
theorem Bnz (p : List UInt8) (a m : Nat) (hm : m ≤ 48) : Ex (Atr (Ud p a m)) = some ((Ez p a m : Nat) : Int) := by
 obtain ⟨s, h1, h2⟩ := Bb5 p m a
 have hle := Ag9 p m a
 have hlt := Qh p m a
 have h48 : 2 ^ m ≤ 2 ^ 48 := Nat.pow_le_pow_right (by omega) hm
 have hn : (Atr (Ud p a m)).toNat = 18446744073709551615 - Bs p a m := by rw [Bmg, Aao p a m (by omega)]
 have h3 : (281474976710656 : Nat) = 2 ^ 48 := rfl
 refine Brs _ (Ez p a m) s (by omega) ?_
 rw [hn]; omega
def unS (p : List UInt8) (N a : Nat) : Int × Int × Int :=
 if Ez p a (min 48 (N - a)) < min 48 (N - a) then ((Ez p a (min 48 (N - a)) : Nat), ((a + Ez p a (min 48 (N - a)) + 1 : Nat) : Int), 0) else
 if Ez p a (min 48 (N - a)) = 48 then (48, ((a + 48 : Nat) : Int), 0) else (0, 0, 24)
theorem Blg {p : List UInt8} {N : Nat} (h : okB p N) (a : Nat) (ha : a < N) : Abi p (N : Int) (a : Int) = some (unS p N a) := by
 have hN := h.1
 have e1 : Gd (48 : Int) (Ak (N : Int) (a : Int)) = ((min 48 (N - a) : Nat) : Int) := by rw [Ahu, Bg (by omega) (by omega)]; omega
 have hle := Ag9 p (min 48 (N - a)) a
 rw [Abi, Wf, Ae2 h, Aa, if_neg (by rw [Am]; simp), if_neg (by rw [Af]; simp), if_neg (by rw [Cz]; simp; omega), e1, Aq2 h a _ (by omega), if_neg (by omega), Aa]
 simp only
 rw [Ahm, Ahq, if_neg (by rw [Am]; simp), Bnz p a _ (by omega), Aa, Aht, Ah5, e1, unS]
 by_cases h1 : Ez p a (min 48 (N - a)) < min 48 (N - a)
 ·rw [if_pos (by rw [Af]; simp; omega), if_pos h1, Ag (a := (a : Int)) (by omega) (by omega), show Ae (0 : Int) 1 = 1 by decide, Ag (by omega) (by omega)]
  congr 3; omega
 ·rw [if_neg (by rw [Af]; simp; omega), if_neg h1, Ahr, Ah8]
  by_cases h2 : Ez p a (min 48 (N - a)) = 48
  ·rw [if_pos (by rw [Cg, h2]; rfl), if_pos h2, h2, Ag (a := (a : Int)) (by omega) (by omega), Ag (by omega) (by omega)]
   congr 3; omega
  ·rw [if_neg (by rw [Cg]; simp; omega), if_neg h2]; rfl
theorem Axl (p : List UInt8) : ∀ (m a : Nat), Ez p a m < m → Io p (a + Ez p a m) ≠ 1
 | 0, _, h => by simp [Ez] at h
 | m + 1, a, h => by
  by_cases hb : Io p a = 1
  ·rw [Ez, if_pos hb] at h ⊢
   have := Axl p m (a + 1) (by omega)
   rwa [show a + (1 + Ez p (a + 1) m) = a + 1 + Ez p (a + 1) m by omega]
  ·rw [Ez, if_neg hb]; exact hb
theorem Axz (p : List UInt8) : ∀ (m a k : Nat), k < Ez p a m → Io p (a + k) = 1
 | 0, a, k, h => by simp [Ez] at h
 | m + 1, a, k, h => by
  by_cases hb : Io p a = 1
  ·rw [Ez, if_pos hb] at h
   cases k with
   | zero => exact hb
   | succ k =>
    have := Axz p m (a + 1) k (by omega)
    rwa [show a + (k + 1) = a + 1 + k by omega]
  ·rw [Ez, if_neg hb] at h; omega
def unR (p : List UInt8) (N a : Nat) : Int × Int := if (unS p N a).2.2 = 0 then ((unS p N a).1, (unS p N a).2.1) else (-1, 0)
theorem Auj {p : List UInt8} {N : Nat} (h : okB p N) (a : Nat) (ha : a < N) : ∀ (j k q : Nat), k + j = Ez p a (min 48 (N - a)) → j < q → Gq (a : Int) p (N : Int) q (k : Int) = some (unR p N a)
 | 0, k, q + 1, hk, _ => by
  obtain ⟨hN, hl, hz⟩ := h
  have hle := Ag9 p (min 48 (N - a)) a
  have hk' : k = Ez p a (min 48 (N - a)) := by omega
  have e1 : Ae (a : Int) (k : Int) = ((a + k : Nat) : Int) := by rw [Ag (by omega) (by omega)]; omega
  have hend : Nh (a : Int) (k : Int) p (N : Int) = some (unR p N a) := by
   rw [Nh, Aeh, e1]
   by_cases h48 : k = 48
   ·have hu : unS p N a = (48, ((a + 48 : Nat) : Int), 0) := by rw [unS, ← hk', if_neg (by omega), if_pos h48]
    rw [if_pos (by rw [Cg, h48]; rfl), unR, hu, h48]; rfl
   ·rw [if_neg (by rw [Cg]; simp; omega)]
    by_cases hN2 : N ≤ a + k
    ·have hu : unS p N a = (0, 0, 24) := by rw [unS, ← hk', if_neg (by omega), if_neg h48]
     rw [if_pos (by rw [Cz]; simp; omega), unR, hu]; rfl
    ·have hu : unS p N a = (((k : Nat) : Int), ((a + k + 1 : Nat) : Int), 0) := by rw [unS, ← hk', if_pos (by omega)]
     rw [if_neg (by rw [Cz]; simp; omega), unR, hu, Ag (by omega) (by omega)]; rfl
  rw [Gq, Nj, e1]
  by_cases hc : a + k < N ∧ k < 48
  ·have hb := Wp p (a + k)
   have hs := Axl p (min 48 (N - a)) a (by omega)
   rw [← hk'] at hs
   rw [if_pos (by simp [Af]; omega), Aqu p _ (a + k) (by omega) (by omega), Aa, if_neg (by rw [Cg]; simp; omega), hend]
  ·rw [if_neg (by simp [Af]; omega), hend]
 | j + 1, k, q + 1, hk, hq => by
  obtain ⟨hN, hl, hz⟩ := h
  have hle := Ag9 p (min 48 (N - a)) a
  have hb := Axz p (min 48 (N - a)) a k (by omega)
  have e1 : Ae (a : Int) (k : Int) = ((a + k : Nat) : Int) := by rw [Ag (by omega) (by omega)]; omega
  rw [Gq, Nj, e1, if_pos (by simp [Af]; omega), Aqu p _ (a + k) (by omega) (by omega), Aa, hb, if_pos (by decide), Ag (by omega) (by omega)]
  exact Auj ⟨hN, hl, hz⟩ a ha j (k + 1) q (by omega) (by omega)
theorem Blf {p : List UInt8} {N : Nat} (h : okB p N) (a : Nat) (ha : a < N) : Abx p (N : Int) (a : Int) = some (unR p N a) := by
 have hle := Ag9 p (min 48 (N - a)) a
 have := Auj h a ha (Ez p a (min 48 (N - a))) 0 Ba (by omega) (by have := Au; omega)
 exact this
end Go.Pl
set_option linter.unusedVariables false
set_option linter.unusedSimpArgs false
namespace Go.Pl
open Go Go.Lv
theorem Bli {p : List UInt8} {N a : Nat} (h : Ez p a (min 48 (N - a)) < min 48 (N - a)) : unS p N a = (((Ez p a (min 48 (N - a)) : Nat) : Int), ((a + Ez p a (min 48 (N - a)) + 1 : Nat) : Int), 0) := by rw [unS, if_pos h]
theorem Bkc {p : List UInt8} {N a : Nat} (h : ¬ Ez p a (min 48 (N - a)) < min 48 (N - a)) (h2 : Ez p a (min 48 (N - a)) = 48) : unS p N a = (48, ((a + 48 : Nat) : Int), 0) := by rw [unS, if_neg h, if_pos h2]
theorem Blx {p : List UInt8} {N a : Nat} (h : ¬ Ez p a (min 48 (N - a)) < min 48 (N - a)) (h2 : ¬ Ez p a (min 48 (N - a)) = 48) : unS p N a = (0, 0, 24) := by rw [unS, if_neg h, if_neg h2]
theorem Bhx {p : List UInt8} {N : Nat} (h : okB p N) (a : Nat) (ha : N ≤ a) : Abi p (N : Int) (a : Int) = some (0, 0, 24) := by
 rw [Abi, Wf, Ae2 h, Aa, if_neg (by rw [Am]; simp), if_neg (by rw [Af]; simp), if_pos (by rw [Cz]; simp; omega)]
def rcS (p : List UInt8) (N a k : Nat) : UInt32 × Int × Int :=
 if N ≤ a then (0, 0, 24) else
 if Ez p a (min 48 (N - a)) < min 48 (N - a) then
  (if N < a + Ez p a (min 48 (N - a)) + 1 + k then (0, 0, 24) else (UInt32.ofNat (Ez p a (min 48 (N - a)) * 2 ^ k + Bs p (a + Ez p a (min 48 (N - a)) + 1) k), ((a + Ez p a (min 48 (N - a)) + 1 + k : Nat) : Int), 0))
 else if Ez p a (min 48 (N - a)) = 48 then
  (if N < a + 48 + 32 then (0, 0, 24) else if Bs p (a + 48) 32 / 2 ^ k < 48 then (0, 0, 12) else (UInt32.ofNat (Bs p (a + 48) 32), ((a + 48 + 32 : Nat) : Int), 0))
 else (0, 0, 24)
theorem Aqa {p : List UInt8} {a n : Nat} (h : n ≤ 32) : (Ad (Ud p a n) : UInt32) = UInt32.ofNat (Bs p a n) := by
 have e : (Ad (Ud p a n) : UInt32) = UInt32.ofNat (Ud p a n).toNat := by simp only [Ad, Hb, Dx]
 rw [e, Aao p a n (by omega)]
theorem Akk {n : Nat} (h : n < 4294967296) : (UInt32.ofNat n).toNat = n := by rw [UInt32.toNat_ofNat']; exact Nat.mod_eq_of_lt h
theorem Bbx (p : List UInt8) (a : Nat) {n : Nat} (h : n ≤ 32) : Bs p a n < 4294967296 := by
 have h1 := Qh p n a
 have h2 : 2 ^ n ≤ 2 ^ 32 := Nat.pow_le_pow_right (by omega) h
 omega
theorem Bp4 {q v k : Nat} (hq : q < 48) (hv : v < 2 ^ k) (hk : k ≤ 24) : gor (Fa (Ad (q : Int) : UInt32) k) (UInt32.ofNat v) = UInt32.ofNat (q * 2 ^ k + v) := by
 have hp : 2 ^ k ≤ 2 ^ 24 := Nat.pow_le_pow_right (by omega) hk
 have h1 : q * 2 ^ k ≤ 47 * 2 ^ 24 := Nat.mul_le_mul (by omega) hp
 rw [Bo9]; apply UInt32.toNat_inj.1
 rw [UInt32.toNat_or, Atm, Axe, Akk (by omega), Akk (n := v) (by omega), Nat.mod_eq_of_lt (by omega), Nat.mul_comm q, ← Nat.two_pow_add_eq_or_of_lt hv, Akk (by rw [Nat.mul_comm]; omega)]
theorem Bni {p : List UInt8} {N : Nat} (h : okB p N) (a k : Nat) (hk : k ≤ 24) : Am9 p (N : Int) (a : Int) (k : Int) = some (rcS p N a k) := by
 have hN := h.1
 rw [Am9, Ajr, Ae2 h, Aa, if_neg (by rw [Am]; simp), if_neg (by simp [Af, Bb]; omega)]
 by_cases ha : N ≤ a
 ·rw [Bhx h a ha, Aa, rcS, if_pos ha]; rfl
 have hle := Ag9 p (min 48 (N - a)) a
 rw [Blg h a (by omega), Aa]
 by_cases h1 : Ez p a (min 48 (N - a)) < min 48 (N - a)
 ·have hS : rcS p N a k = if N < a + Ez p a (min 48 (N - a)) + 1 + k then (0, 0, 24) else (UInt32.ofNat (Ez p a (min 48 (N - a)) * 2 ^ k + Bs p (a + Ez p a (min 48 (N - a)) + 1) k), ((a + Ez p a (min 48 (N - a)) + 1 + k : Nat) : Int), 0) := by rw [rcS, if_neg ha, if_pos h1]
  rw [Bli h1, hS]
  generalize Ez p a (min 48 (N - a)) = q at *
  simp only
  rw [if_neg (by rw [Am]; simp), if_neg (by rw [Cg]; simp; omega), Ae1, Ajv, Aq2 h _ k (by omega), Aa]
  by_cases h2 : N < a + q + 1 + k
  ·rw [if_pos h2, if_pos h2]; rfl
  ·rw [if_neg h2, if_neg h2]
   simp only
   have z : (GI.toZ (k : Int)).toNat = k := rfl
   rw [if_neg (by rw [Am]; simp), if_pos (by rw [Af]; simp; omega), Cm (by rw [Cz]; simp), Aa, z, Aqa (by omega), Bp4 (by omega) (Qh _ _ _) hk, Ag (by omega) (by omega)]; rfl
 ·by_cases h2 : Ez p a (min 48 (N - a)) = 48
  ·have hS : rcS p N a k = if N < a + 48 + 32 then (0, 0, 24) else if Bs p (a + 48) 32 / 2 ^ k < 48 then (0, 0, 12) else (UInt32.ofNat (Bs p (a + 48) 32), ((a + 48 + 32 : Nat) : Int), 0) := by rw [rcS, if_neg ha, if_neg h1, if_pos h2]
   have hg := Aq2 h (a + 48) 32 (by omega)
   rw [Bkc h1 h2, hS]
   simp only
   rw [if_neg (by rw [Am]; simp), if_pos (by rw [Cg]; rfl), Ae1, Ajv]
   refine Eq.trans (congrArg (fun o => Option.bind o _) hg) ?_
   rw [Aa]
   by_cases h3 : N < a + 48 + 32
   ·rw [if_pos h3, if_pos h3]; rfl
   ·rw [if_neg h3, if_neg h3]
    simp only
    have z : (GI.toZ (k : Int)).toNat = k := rfl
    have hv := Bbx p (a + 48) (n := 32) (by omega)
    rw [if_neg (by rw [Am]; simp), if_neg (by rw [Af]; simp), Akr, Cm (by rw [Cz]; simp), Aa, Aa, z, Aqa (by omega), Bog]
    have e : (decide ((48 : UInt32).toNat ≤ (Cn (UInt32.ofNat (Bs p (a + 48) 32)) k).toNat)) = decide (¬ Bs p (a + 48) 32 / 2 ^ k < 48) := by
     rw [Aja, Akk hv]; simp
    rw [e]
    by_cases h4 : Bs p (a + 48) 32 / 2 ^ k < 48
    ·rw [if_pos (by simp [h4]), if_pos h4]
    ·rw [if_neg (by simp; omega), if_neg h4, Ag (by omega) (by omega)]; rfl
  ·rw [Blx h1 h2, rcS, if_neg ha, if_neg h1, if_neg h2]; rfl
theorem Auh (k : Nat) (hk : k ≤ 63) : ∀ (j i q : Nat), i + j = k → j < q → Ff (k : Int) q (UInt64.ofNat (2 ^ i)) (i : Int) = some (UInt64.ofNat (2 ^ k))
 | 0, i, q + 1, hi, _ => by
  rw [Ff, Kq, if_neg (by rw [Af]; simp; omega), show i = k by omega]; rfl
 | j + 1, i, q + 1, hi, hq => by
  have e : Bj (UInt64.ofNat (2 ^ i)) (2 : UInt64) = UInt64.ofNat (2 ^ (i + 1)) := by
   rw [Ac8, Nat.pow_succ, UInt64.ofNat_mul]; rfl
  rw [Ff, Kq, if_pos (by rw [Af]; simp; omega), Ag (by omega) (by omega), e]
  exact Auh k hk j (i + 1) q (by omega) (by omega)
theorem Acv (k : Nat) (hk : k ≤ 63) : Dr (k : Int) = some (UInt64.ofNat (2 ^ k)) :=
 Auh k hk k 0 Ba (by omega) (by have := Au; omega)
theorem Agx {k : Nat} (hk : k ≤ 63) : (UInt64.ofNat (2 ^ k)).toNat = 2 ^ k := by
 have hp : 2 ^ k ≤ 2 ^ 63 := Nat.pow_le_pow_right (by omega) hk
 rw [UInt64.toNat_ofNat', Nat.mod_eq_of_lt (by omega)]
theorem Boy (v : UInt32) (k : Nat) (hk : k ≤ 24) : Sy v (k : Int) = some ((min 48 (v.toNat / 2 ^ k) : Nat) : Int) := by
 have hpos : 0 < 2 ^ k := Nat.pow_pos (by omega)
 have hv := v.toNat_lt
 rw [Sy, Acv k (by omega), Aa, Cm (by rw [Aeq]; simp only [bne_iff_ne, ne_eq, ← UInt64.toNat_inj, Agx (show k ≤ 63 by omega)]; simp), Aa]
 have e : (Cu (Ad v : UInt64) (UInt64.ofNat (2 ^ k))).toNat = v.toNat / 2 ^ k := by
  rw [Ap6, UInt64.toNat_div, Gv, Agx (by omega), UInt64.toNat_ofNat', Nat.mod_eq_of_lt (by omega)]
 have hle : v.toNat / 2 ^ k ≤ v.toNat := Nat.div_le_self _ _
 have e2 : Gd (48 : UInt64) (Cu (Ad v : UInt64) (UInt64.ofNat (2 ^ k))) = UInt64.ofNat (min 48 (v.toNat / 2 ^ k)) := by
  apply UInt64.toNat_inj.1
  rw [UInt64.toNat_ofNat', Nat.mod_eq_of_lt (by omega)]
  show (if _ then _ else _ : UInt64).toNat = _
  rw [show (GI.toZ (Cu (Ad v : UInt64) (UInt64.ofNat (2 ^ k)))) = ((v.toNat / 2 ^ k : Nat) : Int) by rw [Hb, e], show GI.toZ (48 : UInt64) = 48 from rfl]
  split
  ·rw [e]; omega
  ·show 48 = _; omega
 rw [e2, Ark (by rw [UInt64.toNat_ofNat', Nat.mod_eq_of_lt] <;> omega), UInt64.toNat_ofNat', Nat.mod_eq_of_lt (by omega)]
theorem Bjt {p : List UInt8} {N : Nat} (h : okB p N) (a k : Nat) (hk : k ≤ 24) : Vc p (N : Int) (a : Int) (k : Int) = some (rcS p N a k) := by
 obtain ⟨hN, hl, hz⟩ := h
 have h : okB p N := ⟨hN, hl, hz⟩
 rw [Vc, Vx]
 by_cases ha : N ≤ a
 ·rw [if_pos (by rw [Cz]; simp; omega), rcS, if_pos ha]
 have hle := Ag9 p (min 48 (N - a)) a
 rw [if_neg (by rw [Cz]; simp; omega), Blf h a (by omega), Aa, unR]
 by_cases h1 : Ez p a (min 48 (N - a)) < min 48 (N - a)
 ·have hS : rcS p N a k = if N < a + Ez p a (min 48 (N - a)) + 1 + k then (0, 0, 24) else (UInt32.ofNat (Ez p a (min 48 (N - a)) * 2 ^ k + Bs p (a + Ez p a (min 48 (N - a)) + 1) k), ((a + Ez p a (min 48 (N - a)) + 1 + k : Nat) : Int), 0) := by rw [rcS, if_neg ha, if_pos h1]
  rw [Bli h1, hS]
  generalize Ez p a (min 48 (N - a)) = q at *
  rw [if_pos rfl]
  simp only
  rw [if_neg (by rw [Cg]; simp; omega), Nm, Wc, Bg (by omega) (by omega)]
  by_cases h2 : N < a + q + 1 + k
  ·rw [if_pos (by simp [Af]; omega), if_pos h2]
  ·have hp : 2 ^ k ≤ 2 ^ 24 := Nat.pow_le_pow_right (by omega) hk
   have hm : q * 2 ^ k ≤ 47 * 2 ^ 24 := Nat.mul_le_mul (by omega) hp
   have hv := Qh p k (a + q + 1)
   have e : (Ad (Ae (Bj (Ad (q : Int) : UInt64) (UInt64.ofNat (2 ^ k))) (Ud p (a + q + 1) k)) : UInt32) = UInt32.ofNat (q * 2 ^ k + Bs p (a + q + 1) k) := by
    have e1 : Ae (Bj (Ad (q : Int) : UInt64) (UInt64.ofNat (2 ^ k))) (Ud p (a + q + 1) k) = UInt64.ofNat (q * 2 ^ k + Bs p (a + q + 1) k) := by
     rw [Acp, Ac8, Xt, Ud, UInt64.ofNat_add, UInt64.ofNat_mul]
    rw [e1]
    have e2 : ∀ x : UInt64, (Ad x : UInt32) = UInt32.ofNat x.toNat := fun x => by simp only [Ad, Hb, Dx]
    rw [e2, UInt64.toNat_ofNat', Nat.mod_eq_of_lt (by omega)]
   rw [if_neg (by simp [Af]; omega), if_neg h2, Ao9 p _ _ k (by omega) (by omega), Aa, if_pos (by rw [Af]; simp; omega), Acv k (by omega), Aa, e, Ag (by omega) (by omega)]; rfl
 ·by_cases h2 : Ez p a (min 48 (N - a)) = 48
  ·have hS : rcS p N a k = if N < a + 48 + 32 then (0, 0, 24) else if Bs p (a + 48) 32 / 2 ^ k < 48 then (0, 0, 12) else (UInt32.ofNat (Bs p (a + 48) 32), ((a + 48 + 32 : Nat) : Int), 0) := by rw [rcS, if_neg ha, if_neg h1, if_pos h2]
   rw [Bkc h1 h2, hS, if_pos rfl]
   simp only
   rw [if_pos (by rw [Cg]; rfl), Nm, Wc, Bg (by omega) (by omega)]
   by_cases h3 : N < a + 48 + 32
   ·rw [if_pos (by simp [Af]; omega), if_pos h3]
   ·have hg := Ao9 p (N : Int) (a + 48) 32 (by omega) (by omega)
    have hv := Bbx p (a + 48) (n := 32) (by omega)
    rw [if_neg (by simp [Af]; omega), if_neg h3]
    refine Eq.trans (congrArg (fun o => Option.bind o _) hg) ?_
    rw [Aa, if_neg (by rw [Af]; simp), Aqa (by omega), Boy _ k hk, Aa, Akk hv]
    by_cases h4 : Bs p (a + 48) 32 / 2 ^ k < 48
    ·rw [if_pos (by rw [Af]; simp; omega), if_pos h4]
    ·rw [if_neg (by rw [Af]; simp; omega), if_neg h4, Ag (by omega) (by omega)]; rfl
  ·rw [Blx h1 h2, rcS, if_neg ha, if_neg h1, if_neg h2]
   have e : (if ((0 : Int), (0 : Int), (24 : Int)).2.2 = 0 then (((0 : Int), (0 : Int), (24 : Int)).1, ((0 : Int), (0 : Int), (24 : Int)).2.1) else ((-1 : Int), (0 : Int))) = (-1, 0) := by decide
   rw [e]; rfl
theorem Bq9 {p : List UInt8} {N a k : Nat} {v : UInt32} {n : Int} (h : rcS p N a k = (v, n, 0)) : (a : Int) < n ∧ n ≤ N := by
 unfold rcS at h
 split at h
 ·simp at h
 split at h
 ·split at h
  ·simp at h
  ·simp only [Prod.mk.injEq] at h; omega
 ·split at h
  ·split at h
   ·simp at h
   ·split at h
    ·simp at h
    ·simp only [Prod.mk.injEq] at h; omega
  ·simp at h
end Go.Pl
set_option linter.unusedVariables false
set_option linter.unusedSimpArgs false
namespace Go.Pl
open Go Go.Lv
def okD (k l : Nat) (s t : UInt64) : Prop := k ≤ 24 ∧ l ≤ 24 ∧ s.toNat ≤ 68719476735 ∧ t.toNat ≤ 68719476735
theorem Bbp (a b : UInt64) (h : a.toNat ≤ b.toNat) : Gd a b = a := by
 show (if _ then _ else _) = _
 rw [Hb, Hb, if_neg (by omega)]
theorem Aps (a : UInt64) : geq a a = true := by rw [Atc]; simp
theorem Bqp {k l : Nat} {s t : UInt64} (h : okD k l s t) : Ajj (k : Int) (l : Int) s t = some 0 := by
 obtain ⟨h1, h2, h3, h4⟩ := h
 have e1 : Gd (Ans (k : Int) 0) 24 = (k : Int) := by rw [Ahu, Bel]; omega
 have e2 : Gd (Ans (l : Int) 0) 24 = (l : Int) := by rw [Ahu, Bel]; omega
 have e3 : Gd s (68719476735 : UInt64) = s := Bbp _ _ (by simpa using h3)
 have e4 : Gd t (68719476735 : UInt64) = t := Bbp _ _ (by simpa using h4)
 have e5 : ∀ a : Int, geq a a = true := fun a => by rw [Cg]; simp
 rw [Ajj, Ace, Ahx, Ab4, Ahg, Aoa, e1, e2, e3, e4, e5, e5, Aps, Aps]; rfl
def Zk (s n : UInt64) : UInt64 := s + n - s / 16
def kS (k : Nat) (s : UInt64) : Nat := if 0 < k ∧ s.toNat < 2 ^ (k + 4) then k - 1 else if k < 24 ∧ 2 ^ (k + 5) < s.toNat then k + 1 else k
theorem Bpm {k : Nat} (h : k ≤ 24) (s : UInt64) : kS k s ≤ 24 := by
 unfold kS
 by_cases h1 : 0 < k ∧ s.toNat < 2 ^ (k + 4)
 ·rw [if_pos h1]; omega
 ·rw [if_neg h1]; split <;> omega
theorem Bgr {k : Nat} {s : UInt64} (h : ¬ (0 < k ∧ s.toNat < 2 ^ (k + 4))) : (if k < 24 ∧ 2 ^ (k + 5) < s.toNat then ((k + 1 : Nat) : Int) else (k : Int)) = ((kS k s : Nat) : Int) := by
 rw [kS, if_neg h]; split <;> rfl
theorem Bgc {s n : UInt64} (h : s.toNat ≤ 68719476735) (hn : n.toNat ≤ 4294967295) : (Zk s n).toNat ≤ 68719476735 := by
 have h1 := s.toNat_lt
 have e : (s + n).toNat = s.toNat + n.toNat := by rw [UInt64.toNat_add]; omega
 have e2 : (s / 16).toNat = s.toNat / 16 := by rw [UInt64.toNat_div]; rfl
 rw [Zk, UInt64.toNat_sub_of_le _ _ (by rw [UInt64.le_iff_toNat_le, e, e2]; omega), e, e2]; omega
theorem Awr (s n : UInt64) : Ae s (Ak n (Cn s (GI.toZ (4 : UInt64)).toNat)) = Zk s n := by
 have e : Cn s (GI.toZ (4 : UInt64)).toNat = s / 16 := by
  apply UInt64.toNat_inj.1
  rw [Adj, UInt64.toNat_div]; rfl
 rw [e, Acp, Awc, Zk, UInt64.sub_eq_add_neg, UInt64.sub_eq_add_neg, UInt64.add_assoc]
theorem Bgt (s n : UInt64) : Ak (Ae s n) (Cu s (16 : UInt64)) = Zk s n := by rw [Acp, Awc, Ap6, Zk]
theorem Bru {k : Nat} (h : k ≤ 24) : (Fa (16 : UInt64) k).toNat = 2 ^ (k + 4) := by
 have hp : 2 ^ k ≤ 2 ^ 24 := Nat.pow_le_pow_right (by omega) h
 rw [Aiw, Nat.pow_add]
 show 16 * 2 ^ k % _ = 2 ^ k * 16
 rw [Nat.mod_eq_of_lt (by omega), Nat.mul_comm]
theorem Bqy {k : Nat} (h : k ≤ 24) : (Fa (32 : UInt64) k).toNat = 2 ^ (k + 5) := by
 have hp : 2 ^ k ≤ 2 ^ 24 := Nat.pow_le_pow_right (by omega) h
 rw [Aiw, Nat.pow_add]
 show 32 * 2 ^ k % _ = 2 ^ k * 32
 rw [Nat.mod_eq_of_lt (by omega), Nat.mul_comm]
theorem Bpn {k : Nat} {s : UInt64} (h : 0 < k) (h2 : s.toNat < 2 ^ (k + 4)) : kS k s = k - 1 := by rw [kS, if_pos ⟨h, h2⟩]
theorem Bpl {k : Nat} {s : UInt64} (h : ¬ (0 < k ∧ s.toNat < 2 ^ (k + 4))) (h2 : k < 24) (h3 : 2 ^ (k + 5) < s.toNat) : kS k s = k + 1 := by rw [kS, if_neg h, if_pos ⟨h2, h3⟩]
theorem Bgv {k : Nat} {s : UInt64} (h : ¬ (0 < k ∧ s.toNat < 2 ^ (k + 4))) (h2 : ¬ (k < 24 ∧ 2 ^ (k + 5) < s.toNat)) : kS k s = k := by rw [kS, if_neg h, if_neg h2]
theorem Bpx {α : Type} (k : Nat) (hk : k ≤ 24) (s : UInt64) (f : Int → Option α) :
  (if (Hp (k : Int) (0 : Int)) = true then (
   Option.bind (Re (Pr (k : Int) (0 : Int))) fun _ =>
   if (Df s (Fa (16 : UInt64) (GI.toZ (k : Int)).toNat)) = true then f (Ak (k : Int) (1 : Int))
   else (if (Df (k : Int) (24 : Int)) = true then (
    Option.bind (Re (Pr (k : Int) (0 : Int))) fun _ =>
    if (Hp s (Fa (32 : UInt64) (GI.toZ (k : Int)).toNat)) = true then f (Ae (k : Int) (1 : Int)) else f (k : Int))
    else f (k : Int)))
  else (if (Df (k : Int) (24 : Int)) = true then (
    Option.bind (Re (Pr (k : Int) (0 : Int))) fun _ =>
    if (Hp s (Fa (32 : UInt64) (GI.toZ (k : Int)).toNat)) = true then f (Ae (k : Int) (1 : Int)) else f (k : Int))
    else f (k : Int))) = f ((kS k s : Nat) : Int) := by
 have z : (GI.toZ (k : Int)).toNat = k := rfl
 rw [z, Cm (by rw [Cz]; simp)]
 simp only [Aa]
 rw [As6, Ag5, Bru hk, Bqy hk]
 by_cases h0 : 0 < k
 ·rw [if_pos (by rw [Bb]; simp; omega)]
  by_cases h1 : s.toNat < 2 ^ (k + 4)
  ·rw [if_pos (by simp [h1]), Bpn h0 h1, Bg (by omega) (by omega)]; congr 1; omega
  ·rw [if_neg (by simp; omega)]
   by_cases h2 : k < 24
   ·rw [if_pos (by rw [Af]; simp; omega)]
    by_cases h3 : 2 ^ (k + 5) < s.toNat
    ·rw [if_pos (by simp [h3]), Bpl (fun h => h1 h.2) h2 h3, Ag (by omega) (by omega)]; rfl
    ·rw [if_neg (by simp; omega), Bgv (fun h => h1 h.2) (fun h => h3 h.2)]
   ·rw [if_neg (by rw [Af]; simp; omega), Bgv (fun h => h1 h.2) (fun h => h2 h.1)]
 ·rw [if_neg (by rw [Bb]; simp; omega)]
  by_cases h2 : k < 24
  ·rw [if_pos (by rw [Af]; simp; omega)]
   by_cases h3 : 2 ^ (k + 5) < s.toNat
   ·rw [if_pos (by simp [h3]), Bpl (fun h => h0 h.1) h2 h3, Ag (by omega) (by omega)]; rfl
   ·rw [if_neg (by simp; omega), Bgv (fun h => h0 h.1) (fun h => h3 h.2)]
  ·rw [if_neg (by rw [Af]; simp; omega), Bgv (fun h => h0 h.1) (fun h => h2 h.1)]
theorem Bfj (k : Nat) (hk : k ≤ 24) (s n : UInt64) : Ck (k : Int) s n = some (((kS k (Zk s n) : Nat) : Int), Zk s n) := by
 have g1 : Ae (k : Int) 4 = ((k + 4 : Nat) : Int) := by rw [Ag (by omega) (by omega)]; omega
 have g2 : Ae (k : Int) 5 = ((k + 5 : Nat) : Int) := by rw [Ag (by omega) (by omega)]; omega
 have hp : Lu (k : Int) s n = some (if k < 24 ∧ 2 ^ (k + 5) < (Zk s n).toNat then ((k + 1 : Nat) : Int) else (k : Int), Zk s n) := by
  rw [Lu, Adh, g2, Acv _ (by omega), Aa, Bgt, Ag5, Agx (by omega)]
  by_cases h2 : k < 24
  ·rw [if_pos (by rw [Af]; simp; omega)]
   by_cases h3 : 2 ^ (k + 5) < (Zk s n).toNat
   ·rw [if_pos (by simp [h3]), if_pos ⟨h2, h3⟩, Ag (by omega) (by omega)]; rfl
   ·rw [if_neg (by simp; omega), if_neg (fun h => h3 h.2)]
  ·rw [if_neg (by rw [Af]; simp; omega), if_neg (fun h => h2 h.1)]
 rw [Ck, Uc, g1, Acv _ (by omega), Aa, Bgt, As6, Agx (by omega), hp]
 by_cases h0 : 0 < k
 ·rw [if_pos (by rw [Bb]; simp; omega)]
  by_cases h1 : (Zk s n).toNat < 2 ^ (k + 4)
  ·rw [if_pos (by simp [h1]), Bpn h0 h1, Bg (by omega) (by omega)]; congr 2; omega
  ·rw [if_neg (by simp; omega), Bgr (fun h => h1 h.2)]
 ·rw [if_neg (by rw [Bb]; simp; omega), Bgr (fun h => h0 h.1)]
def n64 (v : UInt32) : UInt64 := UInt64.ofNat v.toNat
theorem Bmj (v : UInt32) : (n64 v).toNat ≤ 4294967295 := by have := v.toNat_lt; rw [n64, UInt64.toNat_ofNat', Nat.mod_eq_of_lt (by omega)]; omega
def Asg (k : Nat) (v : UInt32) : UInt32 := UInt32.ofNat (v.toNat - 2 ^ k)
def lK (l : Nat) (t : UInt64) (k : Nat) (v : UInt32) : Nat := if v.toNat < 2 ^ k then l else kS l (Zk t (n64 (Asg k v)))
def lT (t : UInt64) (k : Nat) (v : UInt32) : UInt64 := if v.toNat < 2 ^ k then t else Zk t (n64 (Asg k v))
theorem Blo {k l : Nat} {s t : UInt64} (h : okD k l s t) (v : UInt32) : okD (kS k (Zk s (n64 v))) (lK l t k v) (Zk s (n64 v)) (lT t k v) := by
 obtain ⟨h1, h2, h3, h4⟩ := h
 refine ⟨Bpm h1 _, ?_, Bgc h3 (Bmj v), ?_⟩
 ·unfold lK; split; · exact h2
  exact Bpm h2 _
 ·unfold lT; split; · exact h4
  exact Bgc h4 (Bmj _)
theorem Bqu (k l : Nat) (s t : UInt64) (hk : k ≤ 24) (v : UInt32) : Oo (k : Int) (l : Int) s t v = some (decide (v.toNat < 2 ^ k)) := by
 have := v.toNat_lt
 rw [Oo, Acv k (by omega), Aa, As6, Agx (by omega), Gv, UInt64.toNat_ofNat', Nat.mod_eq_of_lt (by omega)]
theorem left_eq (k l : Nat) (s t : UInt64) (hk : k ≤ 24) (v : UInt32) (h : ¬ v.toNat < 2 ^ k) : Cv (k : Int) (l : Int) s t v = some (Asg k v) := by
 have := v.toNat_lt
 have e2 : ∀ x : UInt64, (Ad x : UInt32) = UInt32.ofNat x.toNat := fun x => by simp only [Ad, Hb, Dx]
 have e3 : (UInt64.ofNat v.toNat).toNat = v.toNat := by rw [UInt64.toNat_ofNat', Nat.mod_eq_of_lt (by omega)]
 rw [Cv, Acv k (by omega), Aa, e2, Awc, Gv, UInt64.toNat_sub_of_le _ _ (by rw [UInt64.le_iff_toNat_le, Agx (by omega), e3]; omega), Agx (by omega), e3, Asg]
theorem Bi3 {k l : Nat} {s t : UInt64} (h : okD k l s t) (v : UInt32) : Ns (k : Int) (l : Int) s t v = some (((kS k (Zk s (n64 v)) : Nat) : Int), ((lK l t k v : Nat) : Int), Zk s (n64 v), lT t k v) := by
 obtain ⟨h1, h2, h3, h4⟩ := h
 have hp : ∀ (r1 : Int) (r2 : UInt64), Jo v (k : Int) (l : Int) s t r1 r2 = some (((kS k (Zk s (n64 v)) : Nat) : Int), r1, Zk s (n64 v), r2) := by
  intro r1 r2
  rw [Jo, Aag, Gv, Bfj k h1, Aa]; rfl
 rw [Ns, Jg, Bqu k l s t h1, Aa]
 by_cases hv : v.toNat < 2 ^ k
 ·rw [if_neg (by simp [hv]), hp, lK, if_pos hv, lT, if_pos hv]
 ·rw [if_pos (by simp; omega), left_eq k l s t h1 v hv, Aa, Gv, Bfj l h2, Aa]
  simp only
  rw [hp, lK, if_neg hv, lT, if_neg hv]; rfl
theorem Bjp (k l : Nat) (s t : UInt64) (hk : k ≤ 24) (v : UInt32) : Akp (k : Int) (l : Int) s t v = some (if v.toNat < 2 ^ k then (0, v) else (1, Asg k v)) := by
 have hp : 2 ^ k ≤ 2 ^ 24 := Nat.pow_le_pow_right (by omega) hk
 have hpos : 0 < 2 ^ k := Nat.pow_pos (by omega)
 have hl := v.toNat_lt
 have z : (GI.toZ (k : Int)).toNat = k := rfl
 have e1 : geq (Cn v k) (0 : UInt32) = decide (v.toNat < 2 ^ k) := by
  rw [Azz, Bool.eq_iff_iff]
  simp only [beq_iff_eq, ← UInt32.toNat_inj, Aja, decide_eq_true_eq]
  show _ / _ = 0 ↔ _
  rw [Nat.div_eq_zero_iff]; omega
 have e2 : ¬ v.toNat < 2 ^ k → Ak v (Fa (1 : UInt32) k) = Asg k v := by
  intro h
  have e3 : (Fa (1 : UInt32) k).toNat = 2 ^ k := by rw [Atm]; show 1 * 2 ^ k % _ = _; rw [Nat.mod_eq_of_lt (by omega), Nat.one_mul]
  apply UInt32.toNat_inj.1
  rw [Bax, UInt32.toNat_sub_of_le _ _ (by rw [UInt32.le_iff_toNat_le, e3]; omega), e3, Asg, Akk (by omega)]
 rw [Akp, Cm (by rw [Cz]; simp), Aa, Aa, z, e1]
 by_cases h : v.toNat < 2 ^ k
 ·rw [if_pos (by simp [h]), if_pos h]
 ·rw [if_neg (by simp; omega), if_neg h, e2 h]
abbrev Rd := UInt32 × Int × Int × Int × UInt64 × UInt64 × Int
theorem Avm {k l : Nat} {s t : UInt64} (h : okD k l s t) (v : UInt32) (r : Int) : Aew (k : Int) (l : Int) s t v r = some (v, r, ((kS k (Zk s (n64 v)) : Nat) : Int), ((lK l t k v : Nat) : Int), Zk s (n64 v), lT t k v, 0) := by
 obtain ⟨h1, h2, h3, h4⟩ := h
 have hp : ∀ (x : Int) (y : UInt64), Aab v r (k : Int) s x y = some (v, r, ((kS k (Zk s (n64 v)) : Nat) : Int), x, Zk s (n64 v), y, 0) := by
  intro x y
  rw [Aab, Aji, Gv, Awr, Bpx k h1]
  rw [Akt, Ajl, Ah2, Aob, Gv, Awr]; rfl
 rw [Aew, Akl, Bjp k l s t h1, Aa]
 by_cases hv : v.toNat < 2 ^ k
 ·rw [if_pos hv]
  simp only
  rw [if_neg (by rw [Cg]; simp), hp, lK, if_pos hv, lT, if_pos hv]
 ·rw [if_neg hv]
  simp only
  rw [if_pos (by rw [Cg]; rfl), Gv, Awr, Bpx l h2 _ (fun x => Aab v r (k : Int) s x (Zk t (UInt64.ofNat (Asg k v).toNat))), hp, lK, if_neg hv, lT, if_neg hv]; rfl
def dgS (p : List UInt8) (N a k l : Nat) : UInt32 × Int × Int :=
 if N ≤ a then (0, 0, 24) else
 if Io p a = 0 then (if N < a + 1 + k then (0, 0, 24) else (UInt32.ofNat (Bs p (a + 1) k), ((a + 1 + k : Nat) : Int), 0)) else
 if (rcS p N (a + 1) l).2.2 ≠ 0 then (0, 0, (rcS p N (a + 1) l).2.2) else
 if 4294967295 < (rcS p N (a + 1) l).1.toNat + 2 ^ k then (0, 0, 12) else (UInt32.ofNat ((rcS p N (a + 1) l).1.toNat + 2 ^ k), (rcS p N (a + 1) l).2.1, 0)
theorem Bp9 {p : List UInt8} {N a k l : Nat} (h : (dgS p N a k l).2.2 = 0) : (a : Int) < (dgS p N a k l).2.1 ∧ (dgS p N a k l).2.1 ≤ N := by
 revert h
 unfold dgS
 split
 ·simp
 split
 ·split
  ·simp
  ·simp only; omega
 ·split
  ·intro h; contradiction
  ·rename_i h1
   split
   ·simp
   ·intro _
    have := Bq9 (p := p) (N := N) (a := a + 1) (k := l) (v := (rcS p N (a + 1) l).1) (n := (rcS p N (a + 1) l).2.1) (by
     have e : (rcS p N (a + 1) l).2.2 = 0 := by simpa using h1
     rw [← e])
    simp only; omega
theorem Bo1 {p : List UInt8} {N : Nat} (h : okB p N) (a : Nat) {k l : Nat} {s t : UInt64} (hd : okD k l s t) : Ve p (N : Int) (a : Int) (k : Int) (l : Int) s t =
  some (if (dgS p N a k l).2.2 ≠ 0 then (0, 0, 0, 0, 0, 0, (dgS p N a k l).2.2) else ((dgS p N a k l).1, (dgS p N a k l).2.1, ((kS k (Zk s (n64 (dgS p N a k l).1)) : Nat) : Int), ((lK l t k (dgS p N a k l).1 : Nat) : Int), Zk s (n64 (dgS p N a k l).1), lT t k (dgS p N a k l).1, 0)) := by
 obtain ⟨h1, h2, h3, h4⟩ := hd
 have hd : okD k l s t := ⟨h1, h2, h3, h4⟩
 have hN := h.1
 have hg := Aq2 h a 1 (by omega)
 have hb := Wp p a
 rw [Ve, Akc, Ae2 h, Aa, if_neg (by rw [Am]; simp), Bqp hd, Aa, if_neg (by rw [Am]; simp), Aka, Ajx]
 refine Eq.trans (congrArg (fun o => Option.bind o _) hg) ?_
 rw [Aa]
 by_cases ha : N ≤ a
 ·have hS : dgS p N a k l = (0, 0, 24) := by rw [dgS, if_pos ha]
  rw [if_pos (by omega), hS]; rfl
 rw [if_neg (by omega)]
 simp only
 have e0 : geq (Ud p a 1) (0 : UInt64) = decide (Io p a = 0) := by
  rw [Atc, Bool.eq_iff_iff]
  simp only [beq_iff_eq, ← UInt64.toNat_inj, decide_eq_true_eq, Aao p a 1 (by omega), Bb8]; rfl
 have e1 : Ae (a : Int) 1 = ((a + 1 : Nat) : Int) := by rw [Ag (by omega) (by omega)]; omega
 rw [if_neg (by rw [Am]; simp), e0, e1]
 by_cases hz : Io p a = 0
 ·rw [if_pos (by simp [hz]), Aq2 h (a + 1) k (by omega), Aa]
  by_cases h5 : N < a + 1 + k
  ·have hS : dgS p N a k l = (0, 0, 24) := by rw [dgS, if_neg ha, if_pos hz, if_pos h5]
   rw [if_pos h5, hS]; rfl
  ·have hS : dgS p N a k l = (UInt32.ofNat (Bs p (a + 1) k), ((a + 1 + k : Nat) : Int), 0) := by rw [dgS, if_neg ha, if_pos hz, if_neg h5]
   rw [if_neg h5, hS]
   simp only
   rw [if_neg (by rw [Am]; simp), Avm hd, Aqa (by omega), Ag (by omega) (by omega)]; rfl
 ·rw [if_neg (by simp [hz]), Bni h (a + 1) l h2, Aa]
  have hp : 2 ^ k ≤ 2 ^ 24 := Nat.pow_le_pow_right (by omega) h1
  by_cases h5 : (rcS p N (a + 1) l).2.2 ≠ 0
  ·have hS : dgS p N a k l = (0, 0, (rcS p N (a + 1) l).2.2) := by rw [dgS, if_neg ha, if_neg hz, if_pos h5]
   rw [hS]
   generalize rcS p N (a + 1) l = R at *
   obtain ⟨v, n, e⟩ := R
   simp only at *
   rw [if_pos (by rw [Am]; simpa using h5), if_pos h5]
  ·have hv := (rcS p N (a + 1) l).1.toNat_lt
   have z : (GI.toZ (k : Int)).toNat = k := rfl
   have e3 : (Fa (1 : UInt32) k).toNat = 2 ^ k := by rw [Atm]; show 1 * 2 ^ k % _ = _; rw [Nat.mod_eq_of_lt (by omega), Nat.one_mul]
   by_cases h6 : 4294967295 < (rcS p N (a + 1) l).1.toNat + 2 ^ k
   ·have hS : dgS p N a k l = (0, 0, 12) := by rw [dgS, if_neg ha, if_neg hz, if_neg h5, if_pos h6]
    rw [hS]
    generalize rcS p N (a + 1) l = R at *
    obtain ⟨v, n, e⟩ := R
    simp only at *
    rw [if_neg (by rw [Am]; simpa using h5), Cm (by rw [Cz]; simp), Aa, z, if_pos (by rw [Bfl, Avi, UInt32.toNat_add, e3]; simp; omega), if_pos (by decide)]
   ·have hS : dgS p N a k l = (UInt32.ofNat ((rcS p N (a + 1) l).1.toNat + 2 ^ k), (rcS p N (a + 1) l).2.1, 0) := by rw [dgS, if_neg ha, if_neg hz, if_neg h5, if_neg h6]
    rw [hS]
    generalize rcS p N (a + 1) l = R at *
    obtain ⟨v, n, e⟩ := R
    simp only at *
    have e4 : Ae v (Fa (1 : UInt32) k) = UInt32.ofNat (v.toNat + 2 ^ k) := by
     apply UInt32.toNat_inj.1
     rw [Avi, UInt32.toNat_add, e3, Akk (by omega), Nat.mod_eq_of_lt (by omega)]
    rw [if_neg (by rw [Am]; simpa using h5), Cm (by rw [Cz]; simp), Aa, z, if_neg (by rw [Bfl, Avi, UInt32.toNat_add, e3]; simp; omega), e4, Avm hd]; rfl
theorem Bln {p : List UInt8} {N : Nat} (h : okB p N) (a : Nat) (k l : Nat) (s t : UInt64) (h1 : k ≤ 24) (h2 : l ≤ 24) : Vi p (N : Int) (a : Int) (k : Int) (l : Int) s t = some (dgS p N a k l) := by
 have hN := h.1
 have hl := h.2.1
 have hb := Wp p a
 rw [Vi]
 by_cases ha : N ≤ a
 ·rw [if_pos (by rw [Cz]; simp; omega), dgS, if_pos ha]
 rw [if_neg (by rw [Cz]; simp; omega), Aqu p _ a (by omega) (by omega), Aa, Bg (a := (N : Int)) (b := (a : Int)) (by omega) (by omega), Bg (by omega) (by omega)]
 have e1 : Ae (a : Int) 1 = ((a + 1 : Nat) : Int) := by rw [Ag (by omega) (by omega)]; omega
 rw [e1]
 by_cases hz : Io p a = 0
 ·rw [if_pos (by rw [Cg]; simp [hz])]
  by_cases h5 : N < a + 1 + k
  ·rw [if_pos (by rw [Af]; simp; omega), dgS, if_neg ha, if_pos hz, if_pos h5]
  ·rw [if_neg (by rw [Af]; simp; omega), Ao9 p _ (a + 1) k (by omega) (by omega), Aa, dgS, if_neg ha, if_pos hz, if_neg h5, Aqa (by omega), Ag (by omega) (by omega)]; rfl
 ·rw [if_neg (by rw [Cg]; simp; omega), Bjt h (a + 1) l h2, Aa]
  have hp : 2 ^ k ≤ 2 ^ 24 := Nat.pow_le_pow_right (by omega) h1
  have hv := (rcS p N (a + 1) l).1.toNat_lt
  have e2 : ∀ x : UInt64, (Ad x : UInt32) = UInt32.ofNat x.toNat := fun x => by simp only [Ad, Hb, Dx]
  by_cases h5 : (rcS p N (a + 1) l).2.2 ≠ 0
  ·have hS : dgS p N a k l = (0, 0, (rcS p N (a + 1) l).2.2) := by rw [dgS, if_neg ha, if_neg hz, if_pos h5]
   rw [hS]
   generalize rcS p N (a + 1) l = R at *
   obtain ⟨v, n, e⟩ := R
   simp only at *
   rw [if_pos (by rw [Am]; simpa using h5)]
  ·have hsum : ∀ v : UInt32, (Ae (Ad v : UInt64) (UInt64.ofNat (2 ^ k))).toNat = v.toNat + 2 ^ k := by
    intro v
    have := v.toNat_lt
    have := Nat.pow_pos (n := k) (show 0 < 2 by omega)
    rw [Acp, UInt64.toNat_add, Gv, Agx (by omega), UInt64.toNat_ofNat']; omega
   by_cases h6 : 4294967295 < (rcS p N (a + 1) l).1.toNat + 2 ^ k
   ·have hS : dgS p N a k l = (0, 0, 12) := by rw [dgS, if_neg ha, if_neg hz, if_neg h5, if_pos h6]
    rw [hS]
    generalize rcS p N (a + 1) l = R at *
    obtain ⟨v, n, e⟩ := R
    simp only at *
    rw [if_neg (by rw [Am]; simpa using h5), Acv k (by omega), Aa, if_pos (by rw [Ag5, hsum]; simpa using h6)]
   ·have hS : dgS p N a k l = (UInt32.ofNat ((rcS p N (a + 1) l).1.toNat + 2 ^ k), (rcS p N (a + 1) l).2.1, 0) := by rw [dgS, if_neg ha, if_neg hz, if_neg h5, if_neg h6]
    rw [hS]
    generalize rcS p N (a + 1) l = R at *
    obtain ⟨v, n, e⟩ := R
    simp only at *
    rw [if_neg (by rw [Am]; simpa using h5), Acv k (by omega), Aa, if_neg (by rw [Ag5, hsum]; simpa using h6), e2, hsum]
end Go.Pl
set_option linter.unusedVariables false
set_option linter.unusedSimpArgs false
namespace Go.Pl
open Go Go.Lv
abbrev DuN := Nat × Nat × UInt64 × UInt64
def okN (d : DuN) : Prop := okD d.1 d.2.1 d.2.2.1 d.2.2.2
def nxt (d : DuN) (v : UInt32) : DuN := (kS d.1 (Zk d.2.2.1 (n64 v)), lK d.2.1 d.2.2.2 d.1 v, Zk d.2.2.1 (n64 v), lT d.2.2.2 d.1 v)
def Ay5 : DuN := (10, 10, 16384, 16384)
theorem Blb : okN Ay5 := ⟨by decide, by decide, by decide, by decide⟩
theorem Bq1 {d : DuN} (h : okN d) (v : UInt32) : okN (nxt d v) := Blo h v
abbrev DuL := Int × Int × UInt64 × UInt64 × Unit
def toI (d : DuN) : DuL := ((d.1 : Int), (d.2.1 : Int), d.2.2.1, d.2.2.2, ())
def chP (ch : Nat) (v : List UInt32) (c : Nat) : Nat → DuN
 | 0 => Ay5
 | m + 1 => if m % ch = c then nxt (chP ch v c m) (v.getD m 0) else chP ch v c m
theorem Arm (ch : Nat) (v : List UInt32) (c : Nat) : ∀ m, okN (chP ch v c m)
 | 0 => Blb
 | m + 1 => by rw [chP]; split; exact Bq1 (Arm ch v c m) _; exact Arm ch v c m
theorem Bgl (ch : Nat) (v w : List UInt32) (c : Nat) : ∀ m, m ≤ v.length → chP ch (v ++ w) c m = chP ch v c m
 | 0, _ => rfl
 | m + 1, h => by
  have e : (v ++ w).getD m 0 = v.getD m 0 := by simp [List.getD_eq_getElem?_getD, List.getElem?_append_left (show m < v.length by omega)]
  rw [chP, chP, Bgl ch v w c m (by omega), e]
theorem Azw (ch : Nat) (v : List UInt32) (c : Nat) : ∀ m, m ≤ c → c < ch → chP ch v c m = Ay5
 | 0, _, _ => rfl
 | m + 1, h, h2 => by rw [chP, if_neg (by rw [Nat.mod_eq_of_lt (by omega)]; omega), Azw ch v c m (by omega) h2]
theorem Bcs (ch : Nat) (v : List UInt32) (c i : Nat) (hi : i % ch = c) (hc : c < ch) : ∀ j, j < ch → chP ch v c (i + 1 + j) = chP ch v c (i + 1)
 | 0, _ => rfl
 | j + 1, h => by
  have hne : (i + 1 + j) % ch ≠ c := by
   intro e
   have h1 : (i + (1 + j)) % ch = i % ch := by rw [hi, ← e]; congr 1; omega
   have h2 : (1 + j) % ch = 0 := by
    have h3 := Nat.sub_mod_eq_zero_of_mod_eq h1
    rwa [Nat.add_sub_cancel_left] at h3
   rw [Nat.mod_eq_of_lt (by omega)] at h2; omega
  rw [show i + 1 + (j + 1) = (i + 1 + j) + 1 by omega, chP, if_neg hne, Bcs ch v c i hi hc j (by omega)]
theorem Bmf (ch : Nat) (v : List UInt32) (c i : Nat) (hi : i % ch = c) (hc : c < ch) : chP ch v c (i + ch) = nxt (chP ch v c i) (v.getD i 0) := by
 have h := Bcs ch v c i hi hc (ch - 1) (by omega)
 rw [show i + 1 + (ch - 1) = i + ch by omega] at h
 rw [h, chP, if_pos hi]
theorem Awj {l : List UInt32} {k : Nat} (h : k < l.length) : getI l (k : Int) = some (l.getD k 0) := by
 rw [Ds h]; simp [List.getD_eq_getElem?_getD, h]
theorem Aro (a b : Nat) : It (a : Int) (b : Int) = ((a % b : Nat) : Int) := by rw [It, Int.tmod_eq_emod_of_nonneg (by omega)]; omega
theorem Ar2 (ch : Nat) (v : List UInt32) (hch : 1 ≤ ch) (hch6 : ch ≤ 6) (hv : v.length ≤ 4000) : ∀ (j i q : Nat), i % ch = v.length % ch → i ≤ v.length → v.length - i ≤ j → j < q →
  Gf (ch : Int) v q (i : Int) ((chP ch v (v.length % ch) i).1 : Int) ((chP ch v (v.length % ch) i).2.1 : Int) (chP ch v (v.length % ch) i).2.2.1 (chP ch v (v.length % ch) i).2.2.2 =
   some (((chP ch v (v.length % ch) v.length).1 : Int), ((chP ch v (v.length % ch) v.length).2.1 : Int), (chP ch v (v.length % ch) v.length).2.2.1, (chP ch v (v.length % ch) v.length).2.2.2)
 | j, i, q + 1, hi, hl, hj, hq => by
  have hc : v.length % ch < ch := Nat.mod_lt _ (by omega)
  rw [Gf, Qp]
  by_cases h : i < v.length
  ·have h1 := Bi3 (Arm ch v (v.length % ch) i) (v.getD i 0)
   rw [if_pos (by rw [Af, Ac]; simp; omega), Awj h, Aa, h1, Aa]
   have hle : i + ch ≤ v.length := by
    have h2 := Nat.div_add_mod i ch
    have h3 := Nat.div_add_mod v.length ch
    rw [hi] at h2
    have h4 : ch * (i / ch) < ch * (v.length / ch) := by omega
    have h5 := Nat.lt_of_mul_lt_mul_left h4
    have h6 : ch * (i / ch + 1) ≤ ch * (v.length / ch) := Nat.mul_le_mul_left _ h5
    rw [Nat.mul_add] at h6; omega
   have ih := Ar2 ch v hch hch6 hv (j - ch) (i + ch) q (by rw [Nat.add_mod_right]; exact hi) hle (by omega) (by omega)
   rw [Bmf ch v _ i hi hc] at ih
   simp only
   rw [Ag (by omega) (by omega)]
   exact ih
  ·rw [if_neg (by rw [Af, Ac]; simp; omega), show i = v.length by omega]; rfl
theorem Bid (ch : Nat) (v : List UInt32) (hch : 1 ≤ ch) (hch6 : ch ≤ 6) (hv : v.length ≤ 4000) : Jc (ch : Int) v = some (((chP ch v (v.length % ch) v.length).1 : Int), ((chP ch v (v.length % ch) v.length).2.1 : Int), (chP ch v (v.length % ch) v.length).2.2.1, (chP ch v (v.length % ch) v.length).2.2.2) := by
 have hc : v.length % ch < ch := Nat.mod_lt _ (by omega)
 have hle : v.length % ch ≤ v.length := Nat.mod_le _ _
 have h := Ar2 ch v hch hch6 hv v.length (v.length % ch) Ba (by rw [Nat.mod_mod]) hle (by omega) (by have := Au; omega)
 rw [Azw ch v _ _ (Nat.le_refl _) hc] at h
 rw [Jc, Qi, Hn, Aa]
 simp only
 rw [Cm (by rw [Am]; simp; omega), Aa, Ac, Aro]
 exact h
def now (ch : Nat) (v : List UInt32) : DuN := chP ch v (v.length % ch) v.length
def win (N a : Nat) : Nat := min 81 (N - a)
def Jf (ch : Nat) (p : List UInt8) (N a : Nat) (out : List UInt32) : UInt32 × Int × Int := dgS (Abk p a (win N a)) (win N a) 0 (now ch out).1 (now ch out).2.1
def Yr (ch : Nat) (p : List UInt8) (N : Nat) : Nat → Nat → List UInt32 → List UInt32 × Nat × Int
 | 0, a, out => (out, a, 0)
 | j + 1, a, out => if (Jf ch p N a out).2.2 ≠ 0 then (out, a, (Jf ch p N a out).2.2) else Yr ch p N j (a + (Jf ch p N a out).2.1.toNat) (out ++ [(Jf ch p N a out).1])
theorem Am8 {ch : Nat} {p : List UInt8} {N a : Nat} {out : List UInt32} (h : (Jf ch p N a out).2.2 = 0) : 0 < (Jf ch p N a out).2.1 ∧ (Jf ch p N a out).2.1 ≤ win N a := by
 have := Bp9 h
 exact ⟨this.1, this.2⟩
theorem Aye {ch : Nat} {p : List UInt8} {N a : Nat} {out : List UInt32} (h : (Jf ch p N a out).2.2 = 0) : ((a : Int) + (Jf ch p N a out).2.1) = ((a + (Jf ch p N a out).2.1.toNat : Nat) : Int) := by
 have := Am8 h; omega
def sts (ch : Nat) (v : List UInt32) : List DuL := (List.range 6).map fun c => toI (chP ch v c v.length)
theorem Bgy {ch : Nat} {v : List UInt32} {c : Nat} (h : c < 6) : getI (sts ch v) (c : Int) = some (toI (chP ch v c v.length)) := by
 rw [Ds (by simp [sts]; exact h)]; simp [sts]
theorem Boa {ch : Nat} {v : List UInt32} {c : Nat} (x : UInt32) (h : c < 6) (hc : c = v.length % ch) : Pd (sts ch v) (c : Int) (toI (nxt (chP ch v c v.length) x)) = some (sts ch (v ++ [x])) := by
 rw [Vz _ (by simp [sts]; exact h)]
 congr 1
 apply List.ext_getElem (by simp [sts])
 intro i h1 h2
 rw [List.getElem_set]
 simp only [sts, List.getElem_map, List.getElem_range]
 have e : (v ++ [x]).getD v.length 0 = x := by simp
 rw [List.length_append, List.length_singleton, chP, e, Bgl ch v [x] i v.length (Nat.le_refl _)]
 by_cases hi : c = i
 ·subst hi; rw [if_pos rfl, if_pos hc.symm]
 ·rw [if_neg hi, if_neg (by omega)]
section
variable {p : List UInt8} {N ch n : Nat}
theorem Bb6 (hp : okB p N) (h1 : 1 ≤ ch) (h6 : ch ≤ 6) (hn : n * ch ≤ 4000) : ∀ (j a q : Nat) (out : List UInt32), out.length + j = n * ch → j < q → a ≤ N →
  Ki (ch : Int) (n : Int) p (N : Int) q (a : Int) (out.length : Int) (sts ch out) out =
   some (if (Yr ch p N j a out).2.2 ≠ 0 then ([], 0, (Yr ch p N j a out).2.2) else ((Yr ch p N j a out).1, ((Yr ch p N j a out).2.1 : Int), 0))
 | j, a, q + 1, out, hj, hq, ha => by
  have hN := hp.1
  have hnn : n ≤ n * ch := Nat.le_mul_of_pos_right n (by omega)
  have em : Bj (n : Int) (ch : Int) = ((n * ch : Nat) : Int) := by rw [Gz (by rw [← Int.natCast_mul]; omega) (by rw [← Int.natCast_mul]; omega), Int.natCast_mul]
  rw [Ki, Qa, em]
  cases j with
  | zero =>
   rw [if_neg (by rw [Af]; simp; omega)]; rfl
  | succ j =>
   have hc : out.length % ch < 6 := Nat.lt_of_lt_of_le (Nat.mod_lt _ (by omega)) h6
   have ew : Gd (Ae (a : Int) 81) (N : Int) = ((a + win N a : Nat) : Int) := by rw [Ahu, Ag (by omega) (by omega)]; unfold win; omega
   have hw : a + win N a ≤ N := by unfold win; omega
   have hw2 : win N a ≤ 81 := by unfold win; omega
   have hd := Bo1 (Bg4 p a (win N a) (by omega)) 0 (Arm ch out (out.length % ch) out.length)
   have ecode : dgS (Abk p a (win N a)) (win N a) 0 (chP ch out (out.length % ch) out.length).1 (chP ch out (out.length % ch) out.length).2.1 = Jf ch p N a out := rfl
   rw [if_pos (by rw [Af]; simp; omega), ew, Bqv hp a _ hw (by omega), Aa]
   simp only
   rw [if_neg (by rw [Am]; simp), Cm (by rw [Am]; simp; omega), Aa, Aro, Bgy hc, Aa, Aa]
   refine Eq.trans (congrArg (fun o => Option.bind o _) hd) ?_
   rw [Aa, ecode, Yr]
   by_cases he : (Jf ch p N a out).2.2 ≠ 0
   ·rw [if_pos he, if_pos he]
    simp only
    rw [Qd, Px, if_pos (by rw [Am]; simpa using he), if_pos he]
   ·have he0 : (Jf ch p N a out).2.2 = 0 := by simpa using he
    have hok := Am8 he0
    have hset := Boa (ch := ch) (v := out) (Jf ch p N a out).1 hc rfl
    rw [if_neg he, if_neg he]
    simp only
    rw [Qd, Px, if_neg (by rw [Am]; simp), Cm (by rw [Am]; simp; omega), Aa, Aro, Bgy hc, Aa]
    refine Eq.trans (congrArg (fun o => Option.bind o _) hset) ?_
    rw [Aa, Xs, Agd, Gc (by simp; omega), Aa, Ag (by omega) (by omega), Ag (by omega) (by omega), Aye he0]
    have ih := Bb6 hp h1 h6 hn j (a + (Jf ch p N a out).2.1.toNat) q (out ++ [(Jf ch p N a out).1]) (by simp; omega) (by omega) (by omega)
    rw [List.length_append, List.length_singleton] at ih
    exact ih
theorem Bg2 {p : List UInt8} (hN : N = 8 * p.length) (hN2 : N ≤ 330000) (h1 : 1 ≤ ch) (h6 : ch ≤ 6) (hn : n * ch ≤ 4000) : ∀ (j a q : Nat) (out : List UInt32), out.length + j = n * ch → j < q → a ≤ N →
  Dg (ch : Int) (n : Int) p q (a : Int) (out.length : Int) out =
   if (Yr ch p N j a out).2.2 ≠ 0 then some ((Yr ch p N j a out).1, (Yr ch p N j a out).2.2) else Ky ((Yr ch p N j a out).2.1 : Int) p (Yr ch p N j a out).1
 | j, a, q + 1, out, hj, hq, ha => by
  have hnn : n ≤ n * ch := Nat.le_mul_of_pos_right n (by omega)
  have em : Bj (n : Int) (ch : Int) = ((n * ch : Nat) : Int) := by rw [Gz (by rw [← Int.natCast_mul]; omega) (by rw [← Int.natCast_mul]; omega), Int.natCast_mul]
  have e8 : Bj (8 : Int) (Ac p) = (N : Int) := by rw [Ac, Gz (by omega) (by omega)]; omega
  rw [Dg, Rs, em]
  cases j with
  | zero =>
   rw [if_neg (by rw [Af]; simp; omega)]; rfl
  | succ j =>
   have ew : Gd (Ae (a : Int) 81) (N : Int) = ((a + win N a : Nat) : Int) := by rw [Ahu, Ag (by omega) (by omega)]; unfold win; omega
   have hw : a + win N a ≤ N := by unfold win; omega
   have hw2 : win N a ≤ 81 := by unfold win; omega
   have hpre : (Option.bind Hn fun (r_4, r_5, r_6, r_7) =>
     if (Pr (out.length : Int) (ch : Int)) = true then (
     Option.bind (Jc (ch : Int) out) fun (r_8, r_9, r_10, r_11) =>
     Fc (Dg (ch : Int) (n : Int) p q) (ch : Int) (n : Int) p (a : Int) (out.length : Int) out r_8 r_9 r_10 r_11)
     else Fc (Dg (ch : Int) (n : Int) p q) (ch : Int) (n : Int) p (a : Int) (out.length : Int) out r_4 r_5 r_6 r_7) =
     Fc (Dg (ch : Int) (n : Int) p q) (ch : Int) (n : Int) p (a : Int) (out.length : Int) out ((now ch out).1 : Int) ((now ch out).2.1 : Int) (now ch out).2.2.1 (now ch out).2.2.2 := by
    rw [Hn, Aa]
    by_cases hc : ch ≤ out.length
    ·simp only
     rw [if_pos (by rw [Cz]; simp; omega), Bid ch out h1 h6 (by omega), Aa]; rfl
    ·have e : now ch out = Ay5 := by rw [now, Nat.mod_eq_of_lt (by omega), Azw ch out _ _ (Nat.le_refl _) (by omega)]
     simp only
     rw [if_neg (by rw [Cz]; simp; omega), e]; rfl
   have hd := Bln (Bg4 p a (win N a) (by omega)) 0 (now ch out).1 (now ch out).2.1 (now ch out).2.2.1 (now ch out).2.2.2 (Arm ch out _ _).1 (Arm ch out _ _).2.1
   have ecode : dgS (Abk p a (win N a)) (win N a) 0 (now ch out).1 (now ch out).2.1 = Jf ch p N a out := rfl
   rw [if_pos (by rw [Af]; simp; omega), hpre, Fc, Aa1, e8, ew, Bbs p (N : Int) a _ (by omega) (by omega) (by omega), Aa]
   simp only
   refine Eq.trans (congrArg (fun o => Option.bind o _) hd) ?_
   rw [Aa, ecode, Yr]
   by_cases he : (Jf ch p N a out).2.2 ≠ 0
   ·rw [if_pos he, if_pos (by rw [Am]; simpa using he), if_pos he]
   ·have he0 : (Jf ch p N a out).2.2 = 0 := by simpa using he
    have hok := Am8 he0
    have ih := Bg2 hN hN2 h1 h6 hn j (a + (Jf ch p N a out).2.1.toNat) q (out ++ [(Jf ch p N a out).1]) (by simp; omega) (by omega) (by omega)
    have hx := Aye he0
    rw [List.length_append, List.length_singleton] at ih
    rw [if_neg he]
    generalize Jf ch p N a out = R at *
    obtain ⟨v, nx, e⟩ := R
    simp only at *
    rw [if_neg (by rw [Am]; simpa using he), Gc (by simp; omega), Aa, Ag (by omega) (by omega), Ag (by omega) (by omega), hx]
    exact ih
end
theorem Baf {ch : Nat} {p : List UInt8} {N : Nat} : ∀ (j a : Nat) (out : List UInt32), a ≤ N → (Yr ch p N j a out).2.1 ≤ N ∧ (Yr ch p N j a out).1.length ≤ out.length + j ∧ ((Yr ch p N j a out).2.2 = 0 → (Yr ch p N j a out).1.length = out.length + j)
 | 0, a, out, h => ⟨h, Nat.le_refl _, fun _ => rfl⟩
 | j + 1, a, out, h => by
  rw [Yr]
  split
  ·rename_i he
   exact ⟨h, by simp, fun e => absurd e he⟩
  ·rename_i he
   have hok := Am8 (ch := ch) (p := p) (N := N) (a := a) (out := out) (by simpa using he)
   have hw : a + win N a ≤ N := by unfold win; omega
   have ih := Baf (ch := ch) (p := p) (N := N) j (a + (Jf ch p N a out).2.1.toNat) (out ++ [(Jf ch p N a out).1]) (by omega)
   rw [List.length_append, List.length_singleton] at ih
   exact ⟨ih.1, by omega, fun e => by have := ih.2.2 e; omega⟩
theorem Bc8 (ch n : Int) (b : List UInt8) (N : Int) : Pk ch n b N 0 (List.replicate 6 ((0 : Int), (0 : Int), (0 : UInt64), (0 : UInt64), ())) = Xb ch n b N (List.replicate 6 ((10 : Int), (10 : Int), (16384 : UInt64), (16384 : UInt64), ())) := by
 have e : Ba = (Ba - 7) + 1 + 1 + 1 + 1 + 1 + 1 + 1 := by have := Au; omega
 rw [Pk, e]
 rfl
theorem values_eq {p : List UInt8} {N ch n : Nat} (hp : okB p N) (h1 : 1 ≤ ch) (h6 : ch ≤ 6) (hn : n * ch ≤ 4000) : Zt (ch : Int) (n : Int) p (N : Int) =
  some (if (Yr ch p N (n * ch) 0 []).2.2 ≠ 0 then ([], 0, (Yr ch p N (n * ch) 0 []).2.2) else ((Yr ch p N (n * ch) 0 []).1, ((Yr ch p N (n * ch) 0 []).2.1 : Int), 0)) := by
 have h := Bb6 hp h1 h6 hn (n * ch) 0 Ba [] (by simp) (by have := Au; omega) (by omega)
 rw [Zt, Zj, Bc8]
 exact h
theorem Aya (p : List UInt8) (x : List UInt32) (N : Nat) (hN : N = 8 * p.length) (hN2 : N ≤ 330000) : ∀ (j a q : Nat), a + j = N → j < q → Fj p x q (a : Int) = some (x, if Bs p a j = 0 then 0 else 12)
 | 0, a, q + 1, ha, _ => by
  have e8 : Bj (8 : Int) (Ac p) = (N : Int) := by rw [Ac, Gz (by omega) (by omega)]; omega
  rw [Fj, Kx, e8, if_neg (by rw [Af]; simp; omega), Bs, if_pos rfl]; rfl
 | j + 1, a, q + 1, ha, hq => by
  have e8 : Bj (8 : Int) (Ac p) = (N : Int) := by rw [Ac, Gz (by omega) (by omega)]; omega
  have hb := Wp p a
  rw [Fj, Kx, e8, if_pos (by rw [Af]; simp; omega), Aqu p _ a (by omega) (by omega), Aa, Bs]
  by_cases h : Io p a = 0
  ·rw [if_neg (by rw [Am]; simp [h]), Ag (by omega) (by omega), h]
   have ih := Aya p x N hN hN2 j (a + 1) q (by omega) (by omega)
   rw [show ((a : Int) + 1) = ((a + 1 : Nat) : Int) by omega, ih]
   congr 2
   by_cases hv : Bs p (a + 1) j = 0
   ·rw [if_pos hv, if_pos (by omega)]
   ·rw [if_neg hv, if_neg (by omega)]
  ·rw [if_pos (by rw [Am]; simp; omega), if_neg (by omega)]
theorem Boi {p : List UInt8} {N ch n : Nat} (hN : N = 8 * p.length) (hN2 : N ≤ 330000) (h1 : 1 ≤ ch) (h6 : ch ≤ 6) (hn : n * ch ≤ 4000) : Sp (ch : Int) (n : Int) p =
  some (if (Yr ch p N (n * ch) 0 []).2.2 ≠ 0 then ((Yr ch p N (n * ch) 0 []).1, (Yr ch p N (n * ch) 0 []).2.2) else
   ((Yr ch p N (n * ch) 0 []).1, if 7 < N - (Yr ch p N (n * ch) 0 []).2.1 ∨ Bs p (Yr ch p N (n * ch) 0 []).2.1 (N - (Yr ch p N (n * ch) 0 []).2.1) ≠ 0 then 12 else 0)) := by
 have h := Bg2 hN hN2 h1 h6 hn (n * ch) 0 Ba [] (by simp) (by have := Au; omega) (by omega)
 have hat := (Baf (ch := ch) (p := p) (N := N) (n * ch) 0 [] (by omega)).1
 have e8 : Bj (8 : Int) (Ac p) = (N : Int) := by rw [Ac, Gz (by omega) (by omega)]; omega
 rw [Sp, Ut]
 refine Eq.trans h ?_
 generalize Yr ch p N (n * ch) 0 [] = V at *
 obtain ⟨v, a, e⟩ := V
 simp only at *
 by_cases he : e ≠ 0
 ·rw [if_pos he, if_pos he]
 ·rw [if_neg he, if_neg he, Ky, Rj, e8, Bg (by omega) (by omega)]
  by_cases h7 : 7 < N - a
  ·rw [if_pos (by rw [Bb]; simp; omega), if_pos (.inl h7)]
  ·rw [if_neg (by rw [Bb]; simp; omega), Ry, Aya p v N hN hN2 (N - a) a Ba (by omega) (by have := Au; omega)]
   by_cases hv : Bs p a (N - a) = 0
   ·rw [if_pos hv, if_neg (by omega)]
   ·rw [if_neg hv, if_pos (.inr hv)]
end Go.Pl
set_option linter.unusedVariables false
set_option linter.unusedSimpArgs false
namespace Go.Pl
open Go Go.Lv
theorem Azu (n : Int) : (GI.ofZ n : Int32) = Int32.ofInt n := rfl
theorem Ag6 (a : Int32) : GI.toZ a = a.toInt := rfl
theorem Ail (a b : Int32) : Ae a b = a + b := by
 rw [Ae, Ag6, Ag6, Azu, Int32.ofInt_add, Int32.ofInt_toInt, Int32.ofInt_toInt]
theorem At2 (a b : Int32) : Ak a b = a - b := by
 rw [Ak, Ag6, Ag6, Azu, Int32.ofInt_sub, Int32.ofInt_toInt, Int32.ofInt_toInt]
theorem Bgk (a b : Int32) : geq a b = (a == b) := by
 rw [geq, Ag6, Ag6, Bool.eq_iff_iff]; simp [Int32.toInt_inj]
def sel (p : Nat → Bool) (a b : List Int32) : List Int32 := (List.range a.length).map fun k => if p k = true then a.getD k 0 else b.getD k 0
section
variable {p q : Nat → Bool} {a b : List Int32}
theorem Ajn : (sel p a b).length = a.length := by simp [sel]
theorem Kw {k : Nat} (h : k < a.length) : a.getD k 0 = a[k] := by simp [List.getD_eq_getElem?_getD, h]
theorem Yi {k : Nat} (h : k < (sel p a b).length) : (sel p a b)[k] = if p k = true then a.getD k 0 else b.getD k 0 := by simp [sel]
theorem Aha {k : Nat} (h : k < a.length) : getI (sel p a b) (k : Int) = some (if p k = true then a.getD k 0 else b.getD k 0) := by
 rw [Ds (by rw [Ajn]; exact h), Yi]
theorem Yf (h : ∀ k, k < a.length → p k = q k) : sel p a b = sel q a b := by
 apply List.map_congr_left
 intro k hk
 rw [h k (List.mem_range.1 hk)]
theorem Apk {k : Nat} (h : k < a.length) : Pd (sel p a b) (k : Int) (a.getD k 0) = some (sel (fun j => p j || decide (j = k)) a b) := by
 rw [Vz _ (by rw [Ajn]; exact h)]
 congr 1
 apply List.ext_getElem (by simp [Ajn])
 intro i h1 h2
 rw [List.getElem_set, Yi, Yi]
 by_cases hi : k = i
 ·subst hi; simp
 ·have : ¬ i = k := fun e => hi e.symm
  simp [hi, this]
theorem Aqm (h : ∀ k, k < a.length → p k = true) : sel p a b = a := by
 apply List.ext_getElem (by simp [Ajn])
 intro i h1 h2
 rw [Yi, if_pos (h i h2), Kw h2]
theorem Aql (hl : b.length = a.length) (h : ∀ k, k < a.length → p k = false) : sel p a b = b := by
 apply List.ext_getElem (by simp [Ajn, hl])
 intro i h1 h2
 rw [Yi, h i (by omega)]
 simp [List.getD_eq_getElem?_getD, h2]
end
end Go.Pl
set_option linter.unusedVariables false
set_option linter.unusedSimpArgs false
namespace Go.Pl
open Go Go.Lv
theorem Av4 (a b : Int32) : Bj a b = a * b := by
 rw [Bj, Ag6, Ag6, Azu, Int32.ofInt_mul, Int32.ofInt_toInt, Int32.ofInt_toInt]
theorem Aac (a : Int32) : -2147483648 ≤ a.toInt ∧ a.toInt < 2147483648 := ⟨a.le_toInt, a.toInt_lt⟩
theorem Ek (a : Int32) : (Ad a : Int) = a.toInt := by
 have := Aac a
 show wrap64 a.toInt = _
 rw [Bt] <;> omega
theorem Ae6 (n : Int) : (Ad n : Int32) = Int32.ofInt n := rfl
theorem Bi8 (x : Int) : Int32.ofInt (x % 4294967296) = Int32.ofInt x := by
 apply Int32.toInt_inj.1
 rw [Int32.toInt_ofInt, Int32.toInt_ofInt]
 exact Int.emod_bmod x 4294967296
theorem As0 (x : Int) : Bn x = some (Int32.ofInt x) := by
 have e1 : (Ad x : UInt64).toNat = (x % 18446744073709551616).toNat := by
  rw [Bcu, UInt64.toNat_ofNat', Nat.mod_eq_of_lt (by omega)]
 have e2 : (Ad (Ad x : UInt64) : UInt32).toNat = (x % 4294967296).toNat := by
  have e : (Ad (Ad x : UInt64) : UInt32) = UInt32.ofNat (Ad x : UInt64).toNat := by simp only [Ad, Hb, Dx]
  rw [e, UInt32.toNat_ofNat', e1]
  show (x % 18446744073709551616).toNat % 4294967296 = _
  omega
 have e3 : (Ad (Ad (Ad x : UInt64) : UInt32) : Int32) = Int32.ofInt ((Ad (Ad x : UInt64) : UInt32).toNat : Int) := rfl
 rw [Bn, e3, e2, ← Bi8 x]
 congr 2; omega
theorem Aqf (a b : Int32) : Bn (Ae (Ad a : Int) (Ad b : Int)) = some (a + b) := by
 have := Aac a
 have := Aac b
 rw [Ek, Ek, Ag (by omega) (by omega), As0, Int32.ofInt_add, Int32.ofInt_toInt, Int32.ofInt_toInt]
theorem Bkh (a b : Int32) : Bn (Bj (Ad a : Int) (Ad b : Int)) = some (a * b) := by
 have ha := Aac a
 have hb := Aac b
 have h1 : -9223372036854775808 ≤ a.toInt * b.toInt ∧ a.toInt * b.toInt ≤ 9223372036854775807 := by
  have h2 : (a.toInt * b.toInt).natAbs ≤ 2147483648 * 2147483648 := by
   rw [Int.natAbs_mul]; exact Nat.mul_le_mul (by omega) (by omega)
  omega
 rw [Ek, Ek, Gz h1.1 h1.2, As0, Int32.ofInt_mul, Int32.ofInt_toInt, Int32.ofInt_toInt]
def OkF (s : Int) (t p : List Int32) : Prop := (s = 9 ∨ s = 10) ∧ t.length = 16 ∧ p.length = 16
theorem Aq3 {s : Int} {t p : List Int32} (h : OkF s t p) : Abj s t p = some 0 := by
 obtain ⟨rfl | rfl, _, _⟩ := h <;> rfl
theorem g32 {l : List Int32} {k : Nat} (h : k < l.length) : getI l (k : Int) = some (l.getD k 0) := by
 rw [Ds h]; simp [List.getD_eq_getElem?_getD, h]
def Alm (t p : List Int32) : Nat → Int32
 | 0 => 0
 | i + 1 => Alm t p i + t.getD i 0 * p.getD i 0
def half (s : Int) : Int32 := if s = 9 then 256 else 512
def gF (s : Int) (t p : List Int32) : Int32 := Int32.ofInt ((half s + Alm t p 16).toInt.fdiv (if s = 9 then 512 else 1024))
theorem Axn {s : Int} {t p : List Int32} (h : OkF s t p) : ∀ (j i q : Nat), i + j = 16 → j < q → Rc t s p q (half s + Alm t p i) (i : Int) = some (gF s t p, 0)
 | 0, i, q + 1, hi, _ => by
  obtain rfl : i = 16 := by omega
  have hs := h.1
  rw [Rc, Acf, if_neg (by rw [Af]; simp), Ahi, Aoe, Cm (by rw [Cz]; simp; omega), Aa]
  obtain rfl | rfl := hs <;> rfl
 | j + 1, i, q + 1, hi, hq => by
  obtain ⟨hs, ht, hp⟩ := h
  rw [Rc, Acf, if_pos (by rw [Af]; simp; omega), g32 (by omega), Aa, g32 (by omega), Aa, Aa, Ag (b := 1) (by omega) (by omega), Ail, Av4, Int32.add_assoc]
  exact Axn ⟨hs, ht, hp⟩ j (i + 1) q (by omega) (by omega)
theorem Bjz {s : Int} {t p : List Int32} (h : OkF s t p) : Aj3 s t p = some (gF s t p, 0) := by
 have hs := h.1
 have h1 := Axn h 16 0 Ba (by omega) (by have := Au; omega)
 have e : Fa (1 : Int32) (GI.toZ (Ak s (1 : Int))).toNat = half s + Alm t p 0 := by
  obtain rfl | rfl := hs <;> rfl
 rw [Aj3, Ahs, Aq3 h, Aa, if_neg (by rw [Am]; simp), Cm (by rw [Cz, Bg (by omega) (by omega)]; simp; omega), Aa, Ahv, e]
 exact h1
theorem Au7 {s : Int} {t p : List Int32} (ht : t.length = 16) (hp : p.length = 16) {g : Int32} (hg : Alm t p 16 = g) : ∀ (j i q : Nat), i + j = 16 → j < q → Gn s t p q (Alm t p i).toInt (i : Int) = some g
 | 0, i, q + 1, hi, _ => by
  obtain rfl : i = 16 := by omega
  rw [Gn, Np, if_neg (by rw [Af]; simp), Vr, Aek, Ae6, Int32.ofInt_toInt, hg]
 | j + 1, i, q + 1, hi, hq => by
  have ih := Au7 (s := s) ht hp hg j (i + 1) q (by omega) (by omega)
  rw [Alm] at ih
  rw [Gn, Np, if_pos (by rw [Af]; simp; omega), g32 (by omega), g32 (by omega), Aa, Aa, Aa, Aa, Bkh, Aa, ← Ek (Alm t p i), Aqf, Aa, Ek, Ag (by omega) (by omega)]
  exact ih
theorem Bk1 {s : Int} {t p : List Int32} (h : OkF s t p) : Abh s t p = some (Alm t p 16) :=
 Au7 h.2.1 h.2.2 rfl 16 0 Ba (by omega) (by have := Au; omega)
theorem Bi1 (x n : Int) (hn : n = 512 ∨ n = 1024 ∨ n = 16 ∨ n = 32) : (if x.tmod n < 0 then x.tdiv n - 1 else x.tdiv n) = x.fdiv n := by
 have hs : n.sign = 1 := by obtain rfl | rfl | rfl | rfl := hn <;> rfl
 rw [Int.tdiv_eq_ediv, Int.tmod_eq_emod, hs, Int.fdiv_eq_ediv_of_nonneg _ (by omega)]
 by_cases h : 0 ≤ x ∨ n ∣ x
 ·rw [if_pos h, if_pos h]
  obtain rfl | rfl | rfl | rfl := hn <;> (rw [if_neg (by omega)]; omega)
 ·rw [if_neg h, if_neg h]
  obtain rfl | rfl | rfl | rfl := hn <;> (rw [if_pos (by omega)]; omega)
theorem At6 (x n : Int) (hn : n = 512 ∨ n = 1024 ∨ n = 16 ∨ n = 32) (h : -1000000000000 ≤ x) (h' : x ≤ 1000000000000) : -1000000000000 ≤ x.tdiv n ∧ x.tdiv n ≤ 1000000000000 := by
 have hs : n.sign = 1 := by obtain rfl | rfl | rfl | rfl := hn <;> rfl
 rw [Int.tdiv_eq_ediv, hs]
 by_cases h : 0 ≤ x ∨ n ∣ x
 ·rw [if_pos h]; obtain rfl | rfl | rfl | rfl := hn <;> omega
 ·rw [if_neg h]; obtain rfl | rfl | rfl | rfl := hn <;> omega
theorem Bsd (x n : Int) (hn : n = 512 ∨ n = 1024 ∨ n = 16 ∨ n = 32) (h : -1000000000000 ≤ x) (h' : x ≤ 1000000000000) : Cu x n = x.tdiv n := by
 have := At6 x n hn h h'
 rw [Adu, Bt (by omega) (by omega)]
theorem Bcw (x n : Int) (hn : n = 512 ∨ n = 1024 ∨ n = 16 ∨ n = 32) (h : -1000000000000 ≤ x) (h' : x ≤ 1000000000000) :
  (if (Df (It x n) (0 : Int)) = true then some (Ad (Ak (Cu x n) (1 : Int)) : Int32) else some (Ad (Cu x n) : Int32)) = some (Int32.ofInt (x.fdiv n)) := by
 have hb := At6 x n hn h h'
 rw [Af, It, Bsd x n hn h h', Bg (by omega) (by omega), Ae6, Ae6, ← Bi1 x n hn]
 by_cases hx : x.tmod n < 0
 ·rw [if_pos (by simpa using hx), if_pos hx]
 ·rw [if_neg (by simpa using hx), if_neg hx]
theorem Bom {s : Int} {t p : List Int32} (h : OkF s t p) : Sr s t p = some (gF s t p) := by
 obtain ⟨hs, ht, hp⟩ := h
 have h : OkF s t p := ⟨hs, ht, hp⟩
 have hx := Aac (Alm t p 16 + half s)
 have key : ∀ n : Int, (n = 512 ∨ n = 1024) → (half s).toInt = n / 2 → gF s t p = Int32.ofInt ((half s + Alm t p 16).toInt.fdiv n) → Mn s t p n = some (gF s t p) := by
  intro n hn hh hg
  have e2 : Cu n (2 : Int) = (half s).toInt := by rw [hh]; obtain rfl | rfl := hn <;> rfl
  rw [Mn, Acm, Bk1 h, Aa, e2, ← Ek (half s), Aqf, Aa, Cm (by rw [Am]; simp; omega), Aa, Aa, Ek, Bcw _ n (by omega) (by omega) (by omega), hg, Int32.add_comm]
 rw [Sr, Uo]
 obtain rfl | rfl := hs
 ·rw [if_pos (by rw [Cg]; rfl)]; exact key 512 (.inl rfl) rfl rfl
 ·rw [if_neg (by rw [Cg]; decide)]; exact key 1024 (.inr rfl) rfl rfl
def stp (i : Nat) : Int32 := if i = 0 then 4 else if i < 4 then 2 else 1
def sg (x : Int32) : Int32 := if x.toInt < 0 then -1 else if 0 < x.toInt then 1 else 0
def lrn (t p : List Int32) (w : Int32) : List Int32 := (List.range 16).map fun i => t.getD i 0 + stp i * sg (p.getD i 0) * sg w
theorem Ab5 (t p : List Int32) (w : Int32) : (lrn t p w).length = 16 := by simp [lrn]
theorem Azv (t p : List Int32) (w : Int32) {i : Nat} (h : i < 16) : (lrn t p w).getD i 0 = t.getD i 0 + stp i * sg (p.getD i 0) * sg w := by
 rw [Kw (by rw [Ab5]; exact h)]; simp [lrn]
theorem step_eq (i : Nat) : Ai8 (i : Int) = some (stp i) := by
 rw [Ai8, stp]
 by_cases h : i = 0
 ·rw [if_pos (by rw [Cg]; simp [h]), if_pos h]
 ·rw [if_neg (by rw [Cg]; simp; omega), if_neg h]
  by_cases h2 : i < 4
  ·rw [if_pos (by rw [Af]; simp; omega), if_pos h2]
  ·rw [if_neg (by rw [Af]; simp; omega), if_neg h2]
theorem Bh3 (i : Nat) : Tm (i : Int) = some (stp i) := by
 rw [Tm, stp]
 by_cases h : i = 0
 ·rw [if_pos (by rw [Cg]; simp [h]), if_pos h]
 ·rw [if_neg (by rw [Cg]; simp; omega), if_neg h]
  by_cases h2 : i < 4
  ·rw [if_pos (by rw [Axt]; simp; omega), if_pos h2]
  ·rw [if_neg (by rw [Axt]; simp; omega), if_neg h2]
theorem Azn (a b : Int32) : Df a b = decide (a.toInt < b.toInt) := rfl
theorem Bea (a b : Int32) : Hp a b = decide (b.toInt < a.toInt) := rfl
theorem sign_eq (x : Int32) : Mr x = some (sg x) := by
 rw [Mr, sg, Azn, Bea, show (0 : Int32).toInt = 0 from rfl]
 by_cases h : x.toInt < 0
 ·rw [if_pos (by simpa using h), if_pos h]
 ·rw [if_neg (by simpa using h), if_neg h]
  by_cases h2 : 0 < x.toInt
  ·rw [if_pos (by simpa using h2), if_pos h2]
  ·rw [if_neg (by simpa using h2), if_neg h2]
theorem Bg5 : sg 0 = 0 := rfl
theorem toInt_ne {x : Int32} (h : x ≠ 0) : x.toInt ≠ 0 := fun e => h (Int32.toInt_inj.1 (by rw [e]; rfl))
theorem Ayw {x : Int32} (h : x.toInt < 0) : sg x = -1 := by rw [sg, if_pos h]
theorem Azh {x : Int32} (h : x ≠ 0) (h2 : ¬ x.toInt < 0) : sg x = 1 := by
 have := toInt_ne h
 rw [sg, if_neg h2, if_pos (by omega)]
theorem Anj (i : Nat) : stp i = 4 ∨ stp i = 2 ∨ stp i = 1 := by
 unfold stp
 by_cases h : i = 0
 ·rw [if_pos h]; exact .inl rfl
 ·rw [if_neg h]; split; exact .inr (.inl rfl); exact .inr (.inr rfl)
theorem Bja {x w : Int32} (hx : x ≠ 0) (hw : w ≠ 0) (h : (x.toInt < 0) = (w.toInt < 0)) (i : Nat) : stp i * sg x * sg w = stp i := by
 by_cases h1 : x.toInt < 0
 ·rw [Ayw h1, Ayw (by rw [← h]; exact h1)]
  obtain e | e | e := Anj i <;> rw [e] <;> decide
 ·rw [Azh hx h1, Azh hw (by rw [← h]; exact h1)]
  obtain e | e | e := Anj i <;> rw [e] <;> decide
theorem Bfg {x w : Int32} (hx : x ≠ 0) (hw : w ≠ 0) (h : ¬ (x.toInt < 0) = (w.toInt < 0)) (i : Nat) (a : Int32) : a + stp i * sg x * sg w = a - stp i := by
 have key : stp i * sg x * sg w = - stp i := by
  by_cases h1 : x.toInt < 0
  ·have h2 : ¬ w.toInt < 0 := fun h2 => h (propext ⟨fun _ => h2, fun _ => h1⟩)
   rw [Ayw h1, Azh hw h2]
   obtain e | e | e := Anj i <;> rw [e] <;> decide
  ·have h2 : w.toInt < 0 := Decidable.by_contra fun h2 => h (propext ⟨fun h3 => absurd h3 h1, fun h3 => absurd h3 h2⟩)
   rw [Azh hx h1, Ayw h2]
   obtain e | e | e := Anj i <;> rw [e] <;> decide
 rw [key, Int32.sub_eq_add_neg]
def Apd (i : Nat) : Nat → Bool := fun j => decide (j < i)
theorem Ato {a b : List Int32} {i : Nat} (h : i < a.length) : Pd (sel (Apd i) a b) (i : Int) (a.getD i 0) = some (sel (Apd (i + 1)) a b) := by
 rw [Apk h]
 congr 1
 apply Yf
 intro k _
 rw [Bool.eq_iff_iff]
 simp only [Apd, Bool.or_eq_true, decide_eq_true_eq]; omega
theorem Bh5 {a b : List Int32} {i : Nat} (e : a.getD i 0 = b.getD i 0) : sel (Apd i) a b = sel (Apd (i + 1)) a b := by
 apply List.map_congr_left
 intro k _
 simp only [Apd, decide_eq_true_eq]
 by_cases h1 : k < i
 ·rw [if_pos h1, if_pos (by omega)]
 ·by_cases h2 : k = i
  ·subst h2; rw [if_neg h1, if_pos (by omega), e]
  ·rw [if_neg h1, if_neg (by omega)]
theorem Bdl {a b : List Int32} {i : Nat} (h : i < a.length) : getI (sel (Apd i) a b) (i : Int) = some (b.getD i 0) := by
 rw [Aha h, if_neg (by simp [Apd])]
theorem Ax7 {s : Int} {t p : List Int32} {w : Int32} (hw : w ≠ 0) (ht : t.length = 16) (hp : p.length = 16) : ∀ (j i q : Nat), i + j = 16 → j < q → Rg w p s q (i : Int) (sel (Apd i) (lrn t p w) t) = some (s, lrn t p w, p, 0)
 | 0, i, q + 1, hi, _ => by
  obtain rfl : i = 16 := by omega
  rw [Rg, Ab2, if_neg (by rw [Af]; simp), Aqm (fun k hk => by rw [Ab5] at hk; simpa [Apd] using hk)]; rfl
 | j + 1, i, q + 1, hi, hq => by
  have hl := Ab5 t p w
  have hg := Azv t p w (i := i) (by omega)
  rw [Rg, Ab2, if_pos (by rw [Af]; simp; omega), g32 (by omega), Aa, Ag (b := 1) (by omega) (by omega), Bdl (by omega), step_eq]
  simp only [Aa]
  rw [Ail, At2, Bgk, Azn, Azn, show (0 : Int32).toInt = 0 from rfl]
  have ih := Ax7 (s := s) hw ht hp j (i + 1) q (by omega) (by omega)
  by_cases hx : p.getD i 0 = 0
  ·rw [if_pos (by rw [hx]; rfl), Bh5 (by rw [hg, hx, Bg5, Int32.mul_zero, Int32.zero_mul, Int32.add_zero])]
   exact ih
  ·rw [if_neg (by simpa using hx)]
   by_cases hs : ((p.getD i 0).toInt < 0) = (w.toInt < 0)
   ·rw [if_pos (by rw [beq_iff_eq]; simp only [hs]), show t.getD i 0 + stp i = (lrn t p w).getD i 0 by rw [hg, Bja hx hw hs], Ato (by omega), Aa]
    exact ih
   ·rw [if_neg (by rw [beq_iff_eq, decide_eq_decide]; exact fun h => hs (propext h)), show t.getD i 0 - stp i = (lrn t p w).getD i 0 by rw [hg, Bfg hx hw hs], Ato (by omega), Aa]
    exact ih
theorem Bk3 {t : List Int32} (p : List Int32) (ht : t.length = 16) : lrn t p 0 = t := by
 apply List.ext_getElem (by rw [Ab5, ht])
 intro i h1 h2
 have := Azv t p 0 (i := i) (by omega)
 rw [Kw h1, Kw h2] at this
 rw [this, Bg5, Int32.mul_zero, Int32.add_zero]
theorem Bko {s : Int} {t p : List Int32} (h : OkF s t p) (w : Int32) : Aj4 s t p w = some (s, lrn t p w, p, 0) := by
 rw [Aj4, Ahy, Aq3 h, Aa, if_neg (by rw [Am]; simp), Bgk]
 by_cases hw : w = 0
 ·rw [if_pos (by simpa using hw), hw, Bk3 p h.2.1]
 ·have h1 := Ax7 (s := s) hw h.2.1 h.2.2 16 0 Ba (by omega) (by have := Au; omega)
  rw [Aql (by rw [Ab5, h.2.1]) (fun k _ => by simp [Apd])] at h1
  rw [if_neg (by simpa using hw)]
  exact h1
theorem Ap8 {s : Int} {t p : List Int32} {w : Int32} (ht : t.length = 16) (hp : p.length = 16) : ∀ (j i q : Nat), i + j = 16 → j < q → Eh w s p q (i : Int) (sel (Apd i) (lrn t p w) t) = some (s, lrn t p w, p)
 | 0, i, q + 1, hi, _ => by
  obtain rfl : i = 16 := by omega
  rw [Eh, Ik, if_neg (by rw [Af]; simp), Aqm (fun k hk => by rw [Ab5] at hk; simpa [Apd] using hk)]; rfl
 | j + 1, i, q + 1, hi, hq => by
  have hl := Ab5 t p w
  have hg := Azv t p w (i := i) (by omega)
  rw [Eh, Ik, if_pos (by rw [Af]; simp; omega), g32 (l := p) (by omega), Ag (b := 1) (by omega) (by omega), Bdl (by omega), Bh3, sign_eq w, Aa, Aa, Aa, Aa, Aa, sign_eq, Aa, Aa, Aa, Ail, Av4, Av4, ← hg, Ato (by omega), Aa]
  exact Ap8 ht hp j (i + 1) q (by omega) (by omega)
theorem Ben {s : Int} {t p : List Int32} (h : OkF s t p) (w : Int32) : Uh s t p w = some (s, lrn t p w, p) := by
 have h1 := Ap8 (s := s) (w := w) h.2.1 h.2.2 16 0 Ba (by omega) (by have := Au; omega)
 rw [Aql (by rw [Ab5, h.2.1]) (fun k _ => by simp [Apd])] at h1
 exact h1
theorem Bnf {p : List Int32} (h : p.length = 16) : ∃ a0 a1 a2 a3 a4 a5 a6 a7 a8 a9 b0 b1 b2 b3 b4 b5, p = [a0, a1, a2, a3, a4, a5, a6, a7, a8, a9, b0, b1, b2, b3, b4, b5] := by
 match p, h with
 | [a0, a1, a2, a3, a4, a5, a6, a7, a8, a9, b0, b1, b2, b3, b4, b5], _ => exact ⟨a0, a1, a2, a3, a4, a5, a6, a7, a8, a9, b0, b1, b2, b3, b4, b5, rfl⟩
theorem Bnv {s : Int} {t p : List Int32} (h : OkF s t p) (x : Int32) : Anh s t p x = some (s, t, x :: p.take 15, 0) := by
 obtain ⟨hs, ht, hp⟩ := h
 rw [Anh, Aex, Aq3 ⟨hs, ht, hp⟩, Aa, if_neg (by rw [Am]; simp), show vwI (16 : Int) 1 16 = some () from rfl, Aa, show vwI (16 : Int) 0 16 = some () from rfl, Aa, Ajw, Aqj]
 obtain ⟨a0, a1, a2, a3, a4, a5, a6, a7, a8, a9, b0, b1, b2, b3, b4, b5, rfl⟩ := Bnf hp
 rfl
def shf (p : List Int32) (i : Nat) : List Int32 := (List.range 16).map fun k => if k ≤ i then p.getD k 0 else p.getD (k - 1) 0
theorem Wt (p : List Int32) (i : Nat) : (shf p i).length = 16 := by simp [shf]
theorem Bpc (p : List Int32) (i k : Nat) (h : k < 16) : (shf p i).getD k 0 = if k ≤ i then p.getD k 0 else p.getD (k - 1) 0 := by
 rw [Kw (by rw [Wt]; exact h)]; simp [shf]
theorem Bof (p : List Int32) (i : Nat) (h : i + 1 < 16) : Pd (shf p (i + 1)) ((i + 1 : Nat) : Int) (p.getD i 0) = some (shf p i) := by
 rw [Vz _ (by rw [Wt]; exact h)]
 congr 1
 apply List.ext_getElem (by simp [Wt])
 intro k h1 h2
 rw [Wt] at h2
 rw [List.getElem_set]
 simp only [shf, List.getElem_map, List.getElem_range]
 by_cases hk : i + 1 = k
 ·subst hk; rw [if_pos rfl, if_neg (by omega)]; rfl
 ·rw [if_neg hk]
  by_cases h3 : k ≤ i
  ·rw [if_pos (by omega), if_pos h3]
  ·rw [if_neg (by omega), if_neg h3]
theorem Asm (s : Int) (t p : List Int32) (x : Int32) (hp : p.length = 16) : ∀ (i q : Nat), i < 16 → i < q → Et x s t q (i : Int) (shf p i) = some (s, t, x :: p.take 15)
 | 0, q + 1, _, _ => by
  have hg : getI (shf p 0) (0 : Int) = some ((shf p 0).getD 0 0) := g32 (l := shf p 0) (k := 0) (by rw [Wt]; omega)
  have hset : Pd (shf p 0) (0 : Int) x = some ((shf p 0).set 0 x) := Vz (l := shf p 0) (n := 0) x (by rw [Wt]; omega)
  rw [Et, Jh, if_neg (by rw [Bb]; simp), Py, Aad, hg, Aa, hset, Aa]
  congr 3
  apply List.ext_getElem (by simp [Wt, hp])
  intro k h1 h2
  rw [List.length_set, Wt] at h1
  rw [List.getElem_set]
  cases k with
  | zero => rw [if_pos rfl]; rfl
  | succ k =>
   rw [if_neg (by omega)]
   simp only [shf, List.getElem_map, List.getElem_range, List.getElem_cons_succ, List.getElem_take]
   rw [if_neg (by omega), Nat.add_sub_cancel, Kw (by omega)]
 | i + 1, q + 1, hi, hq => by
  have hg := g32 (l := shf p (i + 1)) (k := i) (by rw [Wt]; omega)
  rw [Bpc p (i + 1) i (by omega), if_pos (by omega)] at hg
  have e1 : Ak ((i + 1 : Nat) : Int) (1 : Int) = (i : Int) := by rw [Bg (by omega) (by omega)]; omega
  have hg2 := g32 (l := shf p (i + 1)) (k := i + 1) (by rw [Wt]; omega)
  rw [Et, Jh, if_pos (by rw [Bb]; simp), e1, hg, Aa, Aa, hg2, Aa, Bof p i hi, Aa]
  exact Asm s t p x hp i q (by omega) (by omega)
theorem Bhi {s : Int} {t p : List Int32} (hp : p.length = 16) (x : Int32) : Vo s t p x = some (s, t, x :: p.take 15) := by
 have h := Asm s t p x hp 15 Ba (by omega) (by have := Au; omega)
 have e : shf p 15 = p := by
  apply List.ext_getElem (by rw [Wt, hp])
  intro k h1 h2
  rw [Wt] at h1
  simp only [shf, List.getElem_map, List.getElem_range]
  rw [if_pos (by omega), Kw h2]
 rw [e] at h
 exact h
theorem Bj0 {s : Int} {t p : List Int32} (h : OkF s t p) (w x : Int32) : OkF s (lrn t p w) (x :: p.take 15) := ⟨h.1, Ab5 _ _ _, by simp [h.2.2]⟩
theorem Bo3 {s : Int} {t p : List Int32} (h : OkF s t p) (y : Int32) : Alo s t p y = some (y + gF s t p, s, lrn t p y, (y + gF s t p) :: p.take 15, 0) := by
 rw [Alo, Bjz h, Aa]
 simp only
 rw [if_neg (by rw [Am]; simp), Ail, Aox, Bko h, Aa]
 simp only
 rw [Bnv (s := s) (t := lrn t p y) (p := p) ⟨h.1, Ab5 _ _ _, h.2.2⟩, Aa]; rfl
theorem Biw {s : Int} {t p : List Int32} (h : OkF s t p) (y : Int32) : Lt s t p y = some (y + gF s t p, s, lrn t p y, (y + gF s t p) :: p.take 15) := by
 rw [Lt, Bom h, Aa, Aqf, Aa, Ben h, Aa]
 simp only
 rw [Bhi h.2.2, Aa]
def sB (bits : Int) : Int := if bits = 16 then 9 else 10
def shB (bits : Int) : Int := if bits = 8 then 4 else 5
def Du (bits : Int) : Prop := bits = 8 ∨ bits = 16 ∨ bits = 24
def gs (sh : Int) (last : Int32) : Int32 := Ad (Azr (Ak (Fa (Ad last : Int) sh.toNat) (Ad last)) sh.toNat)
theorem Brt (bits : Int) : sB bits = 9 ∨ sB bits = 10 := by unfold sB; split <;> simp
theorem Bnl (bits : Int) : 0 ≤ shB bits := by unfold shB; split <;> omega
theorem Bs5 {bits : Int} (h : Du bits) (t : List Int32) : Ap4 bits t = some (sB bits, t, List.replicate 16 0, 0) := by
 obtain rfl | rfl | rfl := h <;> rfl
theorem Bqc {bits : Int} (h : Du bits) : All bits = some (shB bits, 0) := by
 obtain rfl | rfl | rfl := h <;> rfl
theorem Bqh {sh : Int} (h : 0 ≤ sh) (last : Int32) : Ahb sh last = some (gs sh last) := by
 rw [Ahb, Cm (by rw [Cz]; simpa using h), Aa, Aa]; rfl
theorem Bqx {bits : Int} (h : Du bits) (last : Int32) : Acr bits last = some (gs (shB bits) last, 0) := by
 rw [Acr, Bqc h, Aa]
 simp only
 rw [if_neg (by rw [Am]; simp), Bqh (Bnl bits), Aa]
theorem Bec {bits : Int} (h : Du bits) (last : Int32) (t p : List Int32) : Acz bits last (sB bits) t p = some 0 := by
 rw [Acz, Bs5 h, Aa]
 simp only
 rw [if_neg (by rw [Am, Am]; simp)]
theorem Bhw {bits : Int} (h : Du bits) {t p : List Int32} (hF : OkF (sB bits) t p) (last y : Int32) :
  Ix bits last (sB bits) t p y = some (y + gF (sB bits) t p + gs (shB bits) last, bits, y + gF (sB bits) t p + gs (shB bits) last, sB bits, lrn t p y, (y + gF (sB bits) t p) :: p.take 15, 0) := by
 rw [Ix, Bec h, Aa, if_neg (by rw [Am]; simp), Bqx h, Aa]
 simp only
 rw [Bo3 hF, Aa]
 simp only
 rw [Ail]
theorem Aqy (sh : Int) (hs : sh = 4 ∨ sh = 5) (last : Int32) : Jd sh last = some (gs sh last) := by
 have hl := Aac last
 have key : ∀ n : Int, n = 16 ∨ n = 32 → gs sh last = Int32.ofInt (((n - 1) * last.toInt).fdiv n) → Jp last n = some (gs sh last) := by
  intro n hn hg
  have e : Bj (Ak n (1 : Int)) (Ad last : Int) = (n - 1) * last.toInt := by
   obtain rfl | rfl := hn <;> (rw [Ek, Bg (by omega) (by omega), Gz (by omega) (by omega)])
  rw [Jp, Zz, Cm (by rw [Am]; simp; omega), Aa, Aa, e, Bcw _ n (by omega) (by obtain rfl | rfl := hn <;> omega) (by obtain rfl | rfl := hn <;> omega), hg]
 rw [Jd, Po]
 obtain rfl | rfl := hs
 ·rw [if_neg (by rw [Cg]; decide)]
  refine key 16 (.inl rfl) ?_
  have e : Fa (Ad last : Int) (4 : Int).toNat = last.toInt * 16 := by
   rw [Ek]; show wrap64 (last.toInt * 2 ^ 4) = _; rw [Bt] <;> omega
  rw [gs, e, Ek, Bg (by omega) (by omega), Ae6]
  show Int32.ofInt ((last.toInt * 16 - last.toInt).fdiv 16) = _
  congr 2; omega
 ·rw [if_pos (by rw [Cg]; rfl)]
  refine key 32 (.inr rfl) ?_
  have e : Fa (Ad last : Int) (5 : Int).toNat = last.toInt * 32 := by
   rw [Ek]; show wrap64 (last.toInt * 2 ^ 5) = _; rw [Bt] <;> omega
  rw [gs, e, Ek, Bg (by omega) (by omega), Ae6]
  show Int32.ofInt ((last.toInt * 32 - last.toInt).fdiv 32) = _
  congr 2; omega
theorem Bhh {bits : Int} (h : Du bits) {t p : List Int32} (hF : OkF (sB bits) t p) (last y : Int32) :
  Fx bits last (sB bits) t p y = some (y + gF (sB bits) t p + gs (shB bits) last, bits, y + gF (sB bits) t p + gs (shB bits) last, sB bits, lrn t p y, (y + gF (sB bits) t p) :: p.take 15) := by
 have hb : Nn bits last (sB bits) t p = some (Ad (gs (shB bits) last) : Int) := by
  rw [Nn]
  obtain rfl | rfl | rfl := h
  ·rw [if_pos (by rw [Cg]; rfl), Aqy 4 (.inl rfl), Aa]; rfl
  ·rw [if_neg (by rw [Cg]; decide), Aqy 5 (.inr rfl), Aa]; rfl
  ·rw [if_neg (by rw [Cg]; decide), Aqy 5 (.inr rfl), Aa]; rfl
 rw [Fx, Biw hF, Aa]
 simp only
 rw [hb, Aa, Aqf, Aa]
theorem Bsc {bits : Int} (h : Du bits) (t : List Int32) : Abr bits t = some (bits, 0, sB bits, t, List.replicate 16 0, 0) := by
 obtain rfl | rfl | rfl := h <;> rfl
def Ak1 (n : UInt32) : Int32 := if n.toNat % 2 = 0 then Int32.ofInt ((n.toNat / 2 : Nat) : Int) else Int32.ofInt (-((n.toNat / 2 : Nat) : Int) - 1)
theorem Bco (a b : Int32) : (Wh a b).toBitVec = a.toBitVec ^^^ b.toBitVec := by
 show (Int32.ofInt ((BitVec.ofInt 32 a.toBitVec.toInt ^^^ BitVec.ofInt 32 b.toBitVec.toInt).toNat : Int)).toBitVec = _
 rw [BitVec.ofInt_toInt, BitVec.ofInt_toInt, Int32.toBitVec_ofInt, BitVec.ofInt_natCast, BitVec.ofNat_toNat, BitVec.setWidth_eq]
theorem Bry (m : Nat) (h : m < 2147483648) : Wh (Int32.ofInt (m : Int)) (Int32.ofInt (-1)) = Int32.ofInt (-(m : Int) - 1) := by
 apply Int32.toBitVec_inj.1
 have e1 : (Int32.ofInt (-1)).toBitVec = BitVec.allOnes 32 := by decide
 rw [Bco, e1, BitVec.xor_allOnes, Int32.toBitVec_ofInt, Int32.toBitVec_ofInt]
 apply BitVec.eq_of_toNat_eq
 rw [BitVec.toNat_not, BitVec.toNat_ofInt, BitVec.toNat_ofInt]
 omega
theorem Bkn (n : UInt32) : Va n = some (Ak1 n) := by
 have hn := n.toNat_lt
 have e1 : (Ad (Cn n (GI.toZ (1 : UInt64)).toNat) : Int32) = Int32.ofInt ((n.toNat / 2 : Nat) : Int) := by
  show Int32.ofInt ((Cn n 1).toNat : Int) = _
  rw [Aja]
 have e2 : (Ad (Hm n (1 : UInt32)) : Int32) = Int32.ofInt ((n.toNat % 2 : Nat) : Int) := by
  show Int32.ofInt ((Hm n (1 : UInt32)).toNat : Int) = _
  rw [Bc9, UInt32.toNat_and]
  show Int32.ofInt ((n.toNat &&& 1 : Nat) : Int) = _
  rw [Nat.and_one_is_mod]
 rw [Va, e1, e2, Ak1]
 congr 1
 by_cases h : n.toNat % 2 = 0
 ·have e3 : Aqk (Int32.ofInt ((n.toNat % 2 : Nat) : Int)) = Int32.ofInt 0 := by rw [h]; decide
  rw [if_pos h, e3]
  apply Int32.toBitVec_inj.1
  rw [Bco, show (Int32.ofInt 0).toBitVec = 0#32 from rfl, BitVec.xor_zero]
 ·have e3 : Aqk (Int32.ofInt ((n.toNat % 2 : Nat) : Int)) = Int32.ofInt (-1) := by rw [show n.toNat % 2 = 1 by omega]; decide
  rw [if_neg h, e3, Bry _ (by omega)]
theorem Bpf (n : UInt32) : Il n = some (Ak1 n) := by
 have hn := n.toNat_lt
 have e1 : geq (Yq n (2 : UInt32)) (0 : UInt32) = decide (n.toNat % 2 = 0) := by
  rw [Azz, Bap, Bool.eq_iff_iff]
  simp only [beq_iff_eq, ← UInt32.toNat_inj, UInt32.toNat_mod, decide_eq_true_eq]; rfl
 rw [Il, e1, Ak1]
 by_cases h : n.toNat % 2 = 0
 ·rw [if_pos (by simpa using h), if_pos h, Bcc]; rfl
 ·have e2 : (Ad n : Int) = (n.toNat : Int) := Bfc n
  rw [if_neg (by simpa using h), if_neg h, e2, Ag (by omega) (by omega), Bfa, Bt (by omega) (by omega), Adu, Int.tdiv_eq_ediv, Ae6]
  congr 2
  rw [if_pos (.inr (by omega)), Bt (by omega) (by omega)]; omega
end Go.Pl
set_option linter.unusedVariables false
set_option linter.unusedSimpArgs false
namespace Go.Pl
open Go Go.Lv
theorem Bcf {c : Prop} [Decidable c] (h : c) : Re (decide c) = some () := by rw [decide_eq_true h]; rfl
def unV (f : Nat → Int32) (ch : Nat) : Nat → Int32
 | 0 => if 1 < ch then f (ch - 1) + Cu (f (ch - 2)) (2 : Int32) else f (ch - 1)
 | j + 1 => unV f ch j - f (ch - 2 - j)
def unm (ch : Nat) (m : List Int32) : List Int32 := (List.range m.length).map fun k => unV (fun i => m.getD (k - k % ch + i) 0) ch (ch - 1 - k % ch)
theorem Anp (ch : Nat) (m : List Int32) : (unm ch m).length = m.length := by simp [unm]
theorem Atb {ch : Nat} {m : List Int32} {a i : Nat} (ha : a % ch = 0) (hi : i < ch) (h : a + i < m.length) : (unm ch m).getD (a + i) 0 = unV (fun i => m.getD (a + i) 0) ch (ch - 1 - i) := by
 have hb : (a + i) % ch = i := by rw [Nat.add_mod, ha, Nat.zero_add, Nat.mod_mod, Nat.mod_eq_of_lt hi]
 rw [Kw (by rw [Anp]; exact h)]
 simp only [unm, List.getElem_map, List.getElem_range, hb]
 rw [show a + i - i = a by omega]
section
variable (ch : Nat) (m : List Int32)
theorem Bmp (h1 : 1 ≤ ch) (h6 : ch ≤ 6) (hm : m.length % ch = 0) (hl2 : m.length ≤ 4000) : Anq (ch : Int) m = some 0 := by
 rw [Anq, if_neg (by simp [Af, Bb]; omega), if_neg (by rw [Bb, Ac]; simp; omega), Cm (by rw [Am]; simp; omega), Aa, if_neg]
 rw [Am, It, Ac, ← Int.ofNat_tmod, hm]; simp
theorem Aus (bk : Int → List Int32 → Option (List Int32 × Int)) (at' : Nat) (h1 : 1 ≤ ch) (h6 : ch ≤ 6) (hm : at' % ch = 0) (hl : at' + ch ≤ m.length) (hl2 : m.length ≤ 4000) : ∀ (i q : Nat), i ≤ ch - 1 → i < q →
  Vg bk (ch : Int) (at' : Int) q ((i : Int) - 1) (sel (fun k => decide (k < at' ∨ (at' + i ≤ k ∧ k < at' + ch))) (unm ch m) m) = bk ((at' + ch : Nat) : Int) (sel (fun k => decide (k < at' + ch)) (unm ch m) m)
 | 0, q + 1, hi, _ => by
  have e4 : Ae (at' : Int) (ch : Int) = ((at' + ch : Nat) : Int) := by rw [Ag (by omega) (by omega)]; omega
  rw [Vg, Aet, if_neg (by rw [Cz]; simp), Ajy, Ap3, e4]
  congr 1
  apply Yf
  intro k _
  rw [Bool.eq_iff_iff]; simp; omega
 | i + 1, q + 1, hi, hq => by
  have hlen := Anp ch m
  have e2 : Ae (at' : Int) (ch : Int) - (at' : Int) = (ch : Int) := by rw [Ag (by omega) (by omega)]; omega
  have e3 : Ae (i : Int) 1 = ((i + 1 : Nat) : Int) := by rw [Ag (by omega) (by omega)]; omega
  have hv : ((unm ch m).getD (at' + (i + 1)) 0 - m.getD (at' + i) 0) = (unm ch m).getD (at' + i) 0 := by
   rw [Atb hm (by omega) (by omega), Atb hm (by omega) (by omega), show ch - 1 - i = (ch - 1 - (i + 1)) + 1 by omega, unV, show ch - 2 - (ch - 1 - (i + 1)) = i by omega]
  rw [Vg, Aet, show ((i + 1 : Nat) : Int) - 1 = (i : Int) by omega, if_pos (by rw [Cz]; simp), e2, e3, Bcf (by omega), Aa, Bcf (by omega), Aa,
   show (at' : Int) + ((i + 1 : Nat) : Int) = ((at' + (i + 1) : Nat) : Int) by omega, show (at' : Int) + (i : Int) = ((at' + i : Nat) : Int) by omega,
   Aha (by omega), Aa, Aha (by omega), Aa, Aa, if_pos (by simp; omega), if_neg (by simp; omega), At2, hv, Apk (by omega), Aa, Bg (by omega) (by omega)]
  have ih := Aus bk at' h1 h6 hm hl hl2 i q (by omega) (by omega)
  rw [← ih]
  congr 1
  apply Yf
  intro k _
  rw [Bool.eq_iff_iff]; simp; omega
theorem Bcq {at' ch n : Nat} (ha : at' % ch = 0) (hm : n % ch = 0) (h : at' < n) : at' + ch ≤ n := by
 have d1 := Nat.div_add_mod at' ch
 have d2 := Nat.div_add_mod n ch
 rw [ha, Nat.add_zero] at d1
 rw [hm, Nat.add_zero] at d2
 have hlt : at' / ch < n / ch := by
  rcases Nat.lt_or_ge (at' / ch) (n / ch) with h' | h'
  ·exact h'
  ·have := Nat.mul_le_mul_left ch h'; omega
 have := Nat.mul_le_mul_left ch (show at' / ch + 1 ≤ n / ch from hlt)
 rw [Nat.mul_add] at this; omega
theorem Ayf (h1 : 1 ≤ ch) (h6 : ch ≤ 6) (hm : m.length % ch = 0) (hl2 : m.length ≤ 4000) : ∀ (j at' q : Nat), at' % ch = 0 → at' ≤ m.length → m.length - at' ≤ j → j < q →
  Pj (ch : Int) q (at' : Int) (sel (fun k => decide (k < at')) (unm ch m) m) = some (unm ch m, 0)
 | j, at', q + 1, ha, hle, hj, hq => by
  have hlen := Anp ch m
  have hl : Ac (sel (fun k => decide (k < at')) (unm ch m) m) = (m.length : Int) := by rw [Ac, Ajn, hlen]
  rw [Pj, Aj0, hl]
  by_cases h : at' < m.length
  ·have hb := Bcq ha hm h
   obtain ⟨j, rfl⟩ : ∃ k, j = k + 1 := ⟨j - 1, by omega⟩
   have e1 : Ak (Ae (at' : Int) (ch : Int) - (at' : Int)) 1 = ((ch - 1 : Nat) : Int) := by rw [Ag (by omega) (by omega), Bg (by omega) (by omega)]; omega
   have e2 : Ae (at' : Int) (ch : Int) - (at' : Int) = (ch : Int) := by rw [Ag (by omega) (by omega)]; omega
   have e4 : Ae (at' : Int) (ch : Int) = ((at' + ch : Nat) : Int) := by rw [Ag (by omega) (by omega)]; omega
   have hi := Aus ch m (Pj (ch : Int) q) at' h1 h6 ha hb hl2 (ch - 1) Ba (by omega) (by have := Au; omega)
   have hrest := Ayf h1 h6 hm hl2 j (at' + ch) q (by rw [Nat.add_mod_right, ha]) hb (by omega) (by omega)
   have hstart : Aez (Pj (ch : Int) q) (ch : Int) (at' : Int) (sel (fun k => decide (k < at' ∨ (at' + (ch - 1) ≤ k ∧ k < at' + ch))) (unm ch m) m) = some (unm ch m, 0) := by
    have e6 : Ak ((ch - 1 : Nat) : Int) 1 = ((ch - 1 : Nat) : Int) - 1 := Bg (by omega) (by omega)
    rw [Aez, Ajk, Ajh, e1, e6]
    exact Eq.trans hi hrest
   rw [if_pos (by rw [Af]; simp; omega), show vwI (m.length : Int) (at' : Int) (Ae (at' : Int) (ch : Int)) = some () by rw [e4, vwI, Bcf]; omega, Aa, e1, e2]
   have hlast := Atb (m := m) ha (show ch - 1 < ch by omega) (by omega)
   rw [show ch - 1 - (ch - 1) = 0 by omega, unV] at hlast
   by_cases hc : 1 < ch
   ·have e5 : Ak ((ch - 1 : Nat) : Int) 1 = ((ch - 2 : Nat) : Int) := by rw [Bg (by omega) (by omega)]; omega
    rw [if_pos hc] at hlast
    rw [if_pos (by rw [Bb]; simp; omega), Bcf (by omega), Aa, e5, Bcf (by omega), Aa, show (at' : Int) + ((ch - 1 : Nat) : Int) = ((at' + (ch - 1) : Nat) : Int) by omega, show (at' : Int) + ((ch - 2 : Nat) : Int) = ((at' + (ch - 2) : Nat) : Int) by omega,
     Aha (by omega), Aa, Aha (by omega), Aa, Aa, if_neg (by simp), if_neg (by simp), Ail, ← hlast, Apk (by omega), Aa]
    rw [← hstart]
    congr 1
    apply Yf
    intro k _
    rw [Bool.eq_iff_iff]; simp; omega
   ·have hc1 : ch = 1 := by omega
    rw [if_neg (by rw [Bb]; simp; omega), ← hstart]
    congr 1
    rw [if_neg hc] at hlast
    apply List.map_congr_left
    intro k hk
    by_cases hk2 : k = at'
    ·subst hk2
     rw [if_neg (by simp), if_pos (by simp; omega)]
     rw [show k + (ch - 1) = k by omega] at hlast
     exact hlast.symm
    ·by_cases hk3 : k < at'
     ·rw [if_pos (by simp; omega), if_pos (by simp; omega)]
     ·rw [if_neg (by simp; omega), if_neg (by simp; omega)]
  ·rw [if_neg (by rw [Af]; simp; omega), Aqm (fun k hk => by simp; omega)]
   rfl
theorem Bpb (h1 : 1 ≤ ch) (h6 : ch ≤ 6) (hm : m.length % ch = 0) (hl2 : m.length ≤ 4000) : Ap2 (ch : Int) m = some (unm ch m, 0) := by
 have hlen := Anp ch m
 have h := Ayf ch m h1 h6 hm hl2 m.length 0 Ba (by simp) (by omega) (by omega) (by have := Au; omega)
 rw [Ap2, Aly, Bmp ch m h1 h6 hm hl2, Aa, if_neg (by rw [Am]; simp), Fo, Gc (by simp; omega), Aa, Aa, List.nil_append, Ajg]
 rw [Aql hlen.symm (fun k _ => by simp)] at h
 exact h
end
def Arn (f : Nat → Int32) (ch : Nat) : List Int32 := (List.range ch).map fun i => unV f ch (ch - 1 - i)
theorem Ais (f : Nat → Int32) (ch : Nat) : (Arn f ch).length = ch := by simp [Arn]
theorem Apj (f : Nat → Int32) {ch i : Nat} (h : i < ch) : (Arn f ch).getD i 0 = unV f ch (ch - 1 - i) := by
 rw [Kw (by rw [Ais]; exact h)]; simp [Arn]
theorem Blu (a b : Int32) : Bn (Ak (Ad a : Int) (Ad b : Int)) = some (a - b) := by
 have := Aac a
 have := Aac b
 rw [Ek, Ek, Bg (by omega) (by omega), As0, Int32.ofInt_sub, Int32.ofInt_toInt, Int32.ofInt_toInt]
theorem Bh6 (a b : Int32) : Bn (Ae (Ad a : Int) (Cu (Ad b : Int) (2 : Int))) = some (a + Cu b (2 : Int32)) := by
 have := Aac a
 have hb := Aac b
 have hd : -2147483648 ≤ b.toInt.tdiv 2 ∧ b.toInt.tdiv 2 ≤ 2147483648 := by
  rw [Int.tdiv_eq_ediv, show Int.sign 2 = 1 from rfl]
  by_cases h : 0 ≤ b.toInt ∨ 2 ∣ b.toInt
  ·rw [if_pos h]; omega
  ·rw [if_neg h]; omega
 have e : Cu b (2 : Int32) = Int32.ofInt (b.toInt.tdiv 2) := rfl
 rw [Ek, Ek, Adu, Bt (by omega) (by omega), Ag (by omega) (by omega), As0, Int32.ofInt_add, Int32.ofInt_toInt, e]
theorem Aqo (seg z : List Int32) (ch : Nat) (h6 : ch ≤ 6) (hs : seg.length = ch) (hz : z.length = ch) : ∀ (i q : Nat), i + 1 ≤ ch → i < q →
  Ej seg q ((i : Int) - 1) (sel (fun k => decide (i ≤ k)) (Arn (fun i => seg.getD i 0) ch) z) = some (Arn (fun i => seg.getD i 0) ch)
 | 0, q + 1, hi, _ => by
  rw [Ej, Im, if_neg (by rw [Cz]; simp), Aqm (fun k hk => by simp)]; rfl
 | i + 1, q + 1, hi, hq => by
  have hlen := Ais (fun i => seg.getD i 0) ch
  have e3 : Ae (i : Int) 1 = ((i + 1 : Nat) : Int) := by rw [Ag (by omega) (by omega)]; omega
  have hv : (Arn (fun i => seg.getD i 0) ch).getD (i + 1) 0 - seg.getD i 0 = (Arn (fun i => seg.getD i 0) ch).getD i 0 := by
   rw [Apj _ (by omega), Apj _ (by omega), show ch - 1 - i = (ch - 1 - (i + 1)) + 1 by omega, unV, show ch - 2 - (ch - 1 - (i + 1)) = i by omega]
  rw [Ej, Im, show ((i + 1 : Nat) : Int) - 1 = (i : Int) by omega, if_pos (by rw [Cz]; simp), e3, Aha (by omega), Aa, g32 (by omega), Aa, Aa, if_pos (by simp), Blu, Aa, Aha (by omega), Aa, hv, Apk (by omega), Aa, Bg (by omega) (by omega)]
  have ih := Aqo seg z ch h6 hs hz i q (by omega) (by omega)
  rw [← ih]
  congr 1
  apply Yf
  intro k _
  rw [Bool.eq_iff_iff]; simp; omega
theorem Bch {l : List Int32} {i : Nat} (v : Int32) (h : i < l.length) : (l.set i v).getD i 0 = v := by
 rw [Kw (by rw [List.length_set]; exact h)]; simp
theorem Ber (seg : List Int32) (ch : Nat) (h1 : 1 ≤ ch) (h6 : ch ≤ 6) (hs : seg.length = ch) : Ma seg = some (Arn (fun i => seg.getD i 0) ch) := by
 have hlen := Ais (fun i => seg.getD i 0) ch
 have hzl : (List.replicate ch (0 : Int32)).length = ch := by simp
 have e1 : Ak (Ac seg) 1 = ((ch - 1 : Nat) : Int) := by rw [Ac, hs, Bg (by omega) (by omega)]; omega
 have e2 : Ak (Ac seg) 2 = ((ch - 1 : Nat) : Int) - 1 := by rw [Ac, hs, Bg (by omega) (by omega)]; omega
 have hlast := Apj (fun i => seg.getD i 0) (show ch - 1 < ch by omega)
 rw [show ch - 1 - (ch - 1) = 0 by omega, unV] at hlast
 have hend : ∀ z : List Int32, z.length = ch → z.getD (ch - 1) 0 = (Arn (fun i => seg.getD i 0) ch).getD (ch - 1) 0 → Ir seg z = some (Arn (fun i => seg.getD i 0) ch) := by
  intro z hz hzl
  have h := Aqo seg z ch h6 hs hz (ch - 1) Ba (by omega) (by have := Au; omega)
  have e : sel (fun k => decide (ch - 1 ≤ k)) (Arn (fun i => seg.getD i 0) ch) z = z := by
   apply List.ext_getElem (by rw [Ajn, hlen, hz])
   intro k k1 k2
   rw [Yi]
   by_cases hk : ch - 1 ≤ k
   ·obtain rfl : k = ch - 1 := by omega
    rw [if_pos (by simp), ← hzl, Kw k2]
   ·rw [if_neg (by simpa using hk), Kw k2]
  rw [e] at h
  rw [Ir, Ox, e2]
  exact h
 rw [Ma, Ok, Ac, hs, At9 (by omega) (by omega), Aa, Cm (by rw [Cg]; simp), Aa]
 rw [Ac, hs] at e1
 rw [Ac, hs] at e2
 have hz1 : (List.replicate (Int.toNat (ch : Int)) (0 : Int32)).length = ch := by simp
 have hs1 := g32 (l := seg) (k := ch - 1) (by omega)
 rw [e1, hs1, Aa, g32 (by omega), Aa, Vz _ (by omega), Aa]
 by_cases hc : 1 < ch
 ·rw [if_pos hc] at hlast
  have e3 : ((ch - 1 : Nat) : Int) - 1 = ((ch - 2 : Nat) : Int) := by omega
  have hs2 := g32 (l := seg) (k := ch - 2) (by omega)
  rw [if_pos (by rw [Bb]; simp; omega), Aa, e2, e3, hs2, Aa, Bh6, Aa, g32 (by rw [List.length_set]; omega), Aa, Vz _ (by rw [List.length_set]; omega), Aa]
  refine hend _ (by simp) ?_
  rw [hlast, Bch _ (by rw [List.length_set]; omega)]
 ·rw [if_neg hc] at hlast
  rw [if_neg (by rw [Bb]; simp; omega)]
  refine hend _ (by simp) ?_
  rw [hlast, Bch _ (by omega)]
theorem Bmz (ch : Nat) (m : List Int32) (h1 : 1 ≤ ch) (h6 : ch ≤ 6) (hm : m.length % ch = 0) (hl2 : m.length ≤ 4000) : Ka (ch : Int) m = some 0 := by
 rw [Ka, if_neg (by simp [Af, Bb]; omega), if_neg (by rw [Bb, Ac]; simp; omega), Cm (by rw [Am]; simp; omega), Aa, if_neg]
 rw [Bb, It, Ac, ← Int.ofNat_tmod, hm]; simp
theorem Ar4 (ch : Nat) (m : List Int32) (h1 : 1 ≤ ch) (h6 : ch ≤ 6) (hm : m.length % ch = 0) (hl2 : m.length ≤ 4000) : ∀ (j at' q : Nat), at' % ch = 0 → at' ≤ m.length → m.length - at' ≤ j → j < q →
  Ia (ch : Int) m q (at' : Int) ((unm ch m).take at') = some (unm ch m, 0)
 | j, at', q + 1, ha, hle, hj, hq => by
  have hlen := Anp ch m
  rw [Ia, Ue]
  by_cases h : at' < m.length
  ·have hb := Bcq ha hm h
   have e4 : Ae (at' : Int) (ch : Int) = ((at' + ch : Nat) : Int) := by rw [Ag (by omega) (by omega)]; omega
   have hrest := Ar4 ch m h1 h6 hm hl2 (j - 1) (at' + ch) q (by rw [Nat.add_mod_right, ha]) hb (by omega) (by omega)
   have hseg : ((m.take (at' + ch)).drop at').length = ch := by simp; omega
   have htl : ((unm ch m).take at').length = at' := by simp [hlen]; omega
   rw [if_pos (by rw [Af, Ac]; simp; omega), e4, Xc (by omega) (by omega) (by omega), Aa, show ((at' + ch : Nat) : Int).toNat = at' + ch from rfl, show (at' : Int).toNat = at' from rfl, Ber _ ch h1 h6 hseg, Aa, Gc (by rw [htl, Ais]; omega), Aa]
   have e : (unm ch m).take at' ++ Arn (fun i => ((m.take (at' + ch)).drop at').getD i 0) ch = (unm ch m).take (at' + ch) := by
    apply List.ext_getElem (by rw [List.length_append, htl, Ais, List.length_take, hlen]; omega)
    intro k k1 k2
    rw [List.length_take, hlen] at k2
    rw [List.getElem_append, List.getElem_take]
    by_cases hk : k < at'
    ·rw [dif_pos (by rw [htl]; exact hk), List.getElem_take]
    ·rw [dif_neg (by rw [htl]; exact hk)]
     have hu := Atb (m := m) ha (show k - at' < ch by omega) (by omega)
     rw [show at' + (k - at') = k by omega, Kw (by omega)] at hu
     have hx : ∀ n, n ≤ ch → unV (fun i => ((m.take (at' + ch)).drop at').getD i 0) ch n = unV (fun i => m.getD (at' + i) 0) ch n := by
      have hf : ∀ i, i < ch → ((m.take (at' + ch)).drop at').getD i 0 = m.getD (at' + i) 0 := by
       intro i hi
       rw [Kw (by omega), Kw (by omega)]; simp
      intro n
      induction n with
      | zero =>
       intro _; rw [unV, unV, hf _ (by omega)]; split
       ·rw [hf _ (by omega)]
       ·rfl
      | succ n ih => intro hn; rw [unV, unV, ih (by omega), hf _ (by omega)]
     have hy := Apj (fun i => ((m.take (at' + ch)).drop at').getD i 0) (show k - at' < ch by omega)
     rw [Kw (by rw [Ais]; omega)] at hy
     rw [hu, ← hx _ (by omega), ← hy]
     congr 1
     rw [htl]
   rw [e]
   exact hrest
  ·rw [if_neg (by rw [Af, Ac]; simp; omega), List.take_of_length_le (by omega)]; rfl
theorem Biy (ch : Nat) (m : List Int32) (h1 : 1 ≤ ch) (h6 : ch ≤ 6) (hm : m.length % ch = 0) (hl2 : m.length ≤ 4000) : Th (ch : Int) m = some (unm ch m, 0) := by
 have h := Ar4 ch m h1 h6 hm hl2 m.length 0 Ba (by simp) (by omega) (by omega) (by have := Au; omega)
 rw [Th, Uw, Bmz ch m h1 h6 hm hl2, Aa, if_neg (by rw [Am]; simp)]
 exact h
end Go.Pl
set_option linter.unusedVariables false
set_option linter.unusedSimpArgs false
namespace Go.Pl
open Go Go.Lv
def pre {α : Type} (ch c : Nat) (f : α → Nat → α) (a0 : α) : Nat → α
 | 0 => a0
 | m + 1 => if m % ch = c then f (pre ch c f a0 m) m else pre ch c f a0 m
theorem Bfw {α : Type} (ch c : Nat) (f : α → Nat → α) (a0 : α) : ∀ m, m ≤ c → c < ch → pre ch c f a0 m = a0
 | 0, _, _ => rfl
 | m + 1, h, h2 => by rw [pre, if_neg (by rw [Nat.mod_eq_of_lt (by omega)]; omega), Bfw ch c f a0 m (by omega) h2]
theorem Bce {α : Type} (ch c i : Nat) (f : α → Nat → α) (a0 : α) (hi : i % ch = c) (hc : c < ch) : ∀ j, j < ch → pre ch c f a0 (i + 1 + j) = pre ch c f a0 (i + 1)
 | 0, _ => rfl
 | j + 1, h => by
  have hne : (i + 1 + j) % ch ≠ c := by
   intro e
   have h1 : (i + (1 + j)) % ch = i % ch := by rw [hi, ← e]; congr 1; omega
   have h2 : (1 + j) % ch = 0 := by
    have h3 := Nat.sub_mod_eq_zero_of_mod_eq h1
    rwa [Nat.add_sub_cancel_left] at h3
   rw [Nat.mod_eq_of_lt (by omega)] at h2; omega
  rw [show i + 1 + (j + 1) = (i + 1 + j) + 1 by omega, pre, if_neg hne, Bce ch c i f a0 hi hc j (by omega)]
theorem Bj9 {α : Type} (ch c i : Nat) (f : α → Nat → α) (a0 : α) (hi : i % ch = c) (hc : c < ch) : pre ch c f a0 (i + ch) = f (pre ch c f a0 i) i := by
 have h := Bce ch c i f a0 hi hc (ch - 1) (by omega)
 rw [show i + 1 + (ch - 1) = i + ch by omega] at h
 rw [h, pre, if_pos hi]
abbrev CS := Int32 × List Int32 × List Int32
def Bmc (bits : Int) (s : CS) (y : Int32) : Int32 := y + gF (sB bits) s.2.1 s.2.2 + gs (shB bits) s.1
def Bgw (bits : Int) (s : CS) (y : Int32) : CS := (Bmc bits s y, lrn s.2.1 s.2.2 y, (y + gF (sB bits) s.2.1 s.2.2) :: s.2.2.take 15)
def cst (bits : Int) (ch : Nat) (t : List Int32) (v : List UInt32) (c : Nat) : Nat → CS := pre ch c (fun s i => Bgw bits s (Ak1 (v.getD i 0))) (0, t, List.replicate 16 0)
def OkC (bits : Int) (s : CS) : Prop := OkF (sB bits) s.2.1 s.2.2
theorem Bex (bits : Int) (ch : Nat) {t : List Int32} (ht : t.length = 16) (v : List UInt32) (c : Nat) : ∀ m, OkC bits (cst bits ch t v c m)
 | 0 => ⟨Brt bits, ht, by simp [cst, pre]⟩
 | m + 1 => by
  have ih := Bex bits ch ht v c m
  rw [cst, pre]
  split
  ·exact Bj0 ih _ _
  ·exact ih
def smp (bits : Int) (ch : Nat) (t : List Int32) (v : List UInt32) : List Int32 := (List.range v.length).map fun i => Bmc bits (cst bits ch t v (i % ch) i) (Ak1 (v.getD i 0))
theorem Ano (bits : Int) (ch : Nat) (t : List Int32) (v : List UInt32) : (smp bits ch t v).length = v.length := by simp [smp]
theorem Bfm (bits : Int) (ch : Nat) (t : List Int32) (v : List UInt32) {i : Nat} (h : i < v.length) : (smp bits ch t v).getD i 0 = Bmc bits (cst bits ch t v (i % ch) i) (Ak1 (v.getD i 0)) := by
 rw [Kw (by rw [Ano]; exact h)]; simp [smp]
abbrev CL := Int × Int32 × (Int × (List Int32) × (List Int32) × Unit) × Unit
def toC (bits : Int) (s : CS) : CL := (bits, s.1, (sB bits, s.2.1, s.2.2, ()), ())
def cts (bits : Int) (ch : Nat) (t : List Int32) (v : List UInt32) (i : Nat) : List CL := (List.range 6).map fun c => toC bits (cst bits ch t v c i)
theorem Bor {bits : Int} {ch : Nat} {t : List Int32} {v : List UInt32} {i c : Nat} (h : c < 6) : getI (cts bits ch t v i) (c : Int) = some (toC bits (cst bits ch t v c i)) := by
 rw [Ds (by simp [cts]; exact h)]; simp [cts]
theorem Bb9 (bits : Int) (ch : Nat) (t : List Int32) (v : List UInt32) (c m : Nat) : cst bits ch t v c (m + 1) = if m % ch = c then Bgw bits (cst bits ch t v c m) (Ak1 (v.getD m 0)) else cst bits ch t v c m := rfl
theorem Bnr {bits : Int} {ch : Nat} {t : List Int32} {v : List UInt32} {i c : Nat} (h : c < 6) (hc : i % ch = c) : Pd (cts bits ch t v i) (c : Int) (toC bits (Bgw bits (cst bits ch t v c i) (Ak1 (v.getD i 0)))) = some (cts bits ch t v (i + 1)) := by
 rw [Vz _ (by simp [cts]; exact h)]
 congr 1
 apply List.ext_getElem (by simp [cts])
 intro k h1 h2
 rw [List.getElem_set]
 simp only [cts, List.getElem_map, List.getElem_range]
 by_cases hk : c = k
 ·subst hk; rw [if_pos rfl, Bb9, if_pos hc]
 ·rw [if_neg hk, Bb9, if_neg (by omega)]
section
variable {bits : Int} {ch : Nat} {t : List Int32} {v : List UInt32}
theorem Bbm (hb : Du bits) (ht : t.length = 16) (h1 : 1 ≤ ch) (h6 : ch ≤ 6) (hv : v.length ≤ 4000) : ∀ (j i q : Nat), i + j = v.length → j < q →
  Gs v (ch : Int) bits q (i : Int) (cts bits ch t v i) ((smp bits ch t v).take i) = Je (ch : Int) bits (smp bits ch t v)
 | 0, i, q + 1, hi, _ => by
  rw [Gs, Jb, if_neg (by rw [Af, Ac]; simp; omega), List.take_of_length_le (by rw [Ano]; omega)]
 | j + 1, i, q + 1, hi, hq => by
  have hlen := Ano bits ch t v
  have hc : i % ch < 6 := Nat.lt_of_lt_of_le (Nat.mod_lt _ (by omega)) h6
  have hok := Bex bits ch ht v (i % ch) i
  have hs := Bnr (bits := bits) (ch := ch) (t := t) (v := v) (i := i) hc rfl
  have hx := Bfm bits ch t v (i := i) (by omega)
  have hcb := Bhw hb hok (cst bits ch t v (i % ch) i).1 (Ak1 (v.getD i 0))
  have ih := Bbm hb ht h1 h6 hv j (i + 1) q (by omega) (by omega)
  rw [Aid (by omega), ← Kw (by omega), hx] at ih
  rw [Gs, Jb, if_pos (by rw [Af, Ac]; simp; omega), Awj (by omega), Aa, Cm (by rw [Am]; simp; omega), Aa, Aro, Bor hc, Aa, Aa, Bkn, Aa]
  refine Eq.trans (congrArg (fun o => Option.bind o _) hcb) ?_
  rw [Aa]
  simp only
  rw [Vs, Aed, if_neg (by rw [Am]; simp), Aro]
  refine Eq.trans (congrArg (fun o => Option.bind o _) hs) ?_
  rw [Aa, Gc (by simp; omega), Aa, Ag (by omega) (by omega)]
  exact ih
theorem Bht (hb : Du bits) (ht : t.length = 16) (h1 : 1 ≤ ch) (h6 : ch ≤ 6) (hv : v.length ≤ 4000) : Qx (ch : Int) bits t v = Je (ch : Int) bits (smp bits ch t v) := by
 have h := Bbm hb ht h1 h6 hv v.length 0 Ba (by omega) (by have := Au; omega)
 have e : Ba = (Ba - 7) + 1 + 1 + 1 + 1 + 1 + 1 + 1 := by have := Au; omega
 have hs : Nt v (ch : Int) bits t 0 (List.replicate 6 ((0 : Int), (0 : Int32), ((0 : Int), (List.replicate 16 (0 : Int32)), (List.replicate 16 (0 : Int32)), ()), ())) = Vv v (ch : Int) bits (cts bits ch t v 0) := by
  rw [Nt, e]
  obtain rfl | rfl | rfl := hb <;> rfl
 rw [Qx, Xr, hs]
 exact h
theorem Ayc (bk : Int → List Int32 → Option (List Int32)) (hb : Du bits) (ht : t.length = 16) (h1 : 1 ≤ ch) (h6 : ch ≤ 6) (hv : v.length ≤ 4000) (z : List Int32) (c : Nat) (hc : c < ch) : ∀ (j i q : Nat), i % ch = c → v.length - i ≤ j → i ≤ 5000 → j < q →
  Fz bk v (ch : Int) bits t (c : Int) q (i : Int) (sel (fun k => decide (k % ch < c ∨ (k % ch = c ∧ k < i))) (smp bits ch t v) z) bits (cst bits ch t v c i).1 (sB bits) (cst bits ch t v c i).2.1 (cst bits ch t v c i).2.2 =
   bk ((c + 1 : Nat) : Int) (sel (fun k => decide (k % ch < c + 1)) (smp bits ch t v) z)
 | j, i, q + 1, hi, hj, hi5, hq => by
  have hlen := Ano bits ch t v
  rw [Fz, Ig]
  by_cases h : i < v.length
  ·have hok := Bex bits ch ht v c i
   have hst := Bhh hb hok (cst bits ch t v c i).1 (Ak1 (v.getD i 0))
   have hx := Bfm bits ch t v (i := i) h
   rw [hi] at hx
   have ih := Ayc bk hb ht h1 h6 hv z c hc (j - 1) (i + ch) q (by rw [Nat.add_mod_right]; exact hi) (by omega) (by omega) (by omega)
   have hstep : cst bits ch t v c (i + ch) = Bgw bits (cst bits ch t v c i) (Ak1 (v.getD i 0)) := Bj9 ch c i _ _ hi hc
   rw [hstep] at ih
   have hset := Apk (p := fun k => decide (k % ch < c ∨ (k % ch = c ∧ k < i))) (a := smp bits ch t v) (b := z) (k := i) (by omega)
   rw [hx] at hset
   have hcong : sel (fun j => decide (j % ch < c ∨ (j % ch = c ∧ j < i)) || decide (j = i)) (smp bits ch t v) z = sel (fun k => decide (k % ch < c ∨ (k % ch = c ∧ k < i + ch))) (smp bits ch t v) z := by
    apply Yf
    intro k _
    rw [Bool.eq_iff_iff]
    simp only [Bool.or_eq_true, decide_eq_true_eq]
    constructor
    ·rintro ((h1 | h1) | h1)
     ·exact .inl h1
     ·exact .inr ⟨h1.1, by omega⟩
     ·subst h1; exact .inr ⟨hi, by omega⟩
    ·rintro (h1 | ⟨h1, h2⟩)
     ·exact .inl (.inl h1)
     ·by_cases h3 : k < i
      ·exact .inl (.inr ⟨h1, h3⟩)
      ·refine .inr ?_
       have h4 : (i + (k - i)) % ch = i % ch := by rw [show i + (k - i) = k by omega, h1, hi]
       have h5 := Nat.sub_mod_eq_zero_of_mod_eq h4
       rw [Nat.add_sub_cancel_left, Nat.mod_eq_of_lt (by omega)] at h5
       omega
   rw [hcong] at hset
   rw [if_pos (by rw [Af, Ac]; simp; omega), Awj h, Aa, Bpf, Aa]
   refine Eq.trans (congrArg (fun o => Option.bind o _) hst) ?_
   rw [Aa]
   simp only
   rw [Pc, Od, Aha (by omega), Aa]
   refine Eq.trans (congrArg (fun o => Option.bind o _) hset) ?_
   rw [Aa, Og, Xv, Ag (by omega) (by omega)]
   exact ih
  ·rw [if_neg (by rw [Af, Ac]; simp; omega), Ou, Ye, Ag (by omega) (by omega)]
   have hcong : sel (fun k => decide (k % ch < c ∨ (k % ch = c ∧ k < i))) (smp bits ch t v) z = sel (fun k => decide (k % ch < c + 1)) (smp bits ch t v) z := by
    apply Yf
    intro k hk
    rw [Bool.eq_iff_iff]
    simp only [decide_eq_true_eq]
    omega
   rw [hcong]; rfl
theorem Ax4 (hb : Du bits) (ht : t.length = 16) (h1 : 1 ≤ ch) (h6 : ch ≤ 6) (hv : v.length ≤ 4000) (z : List Int32) : ∀ (j c q : Nat), c + j = ch → j < q →
  Dj v (ch : Int) bits t q (c : Int) (sel (fun k => decide (k % ch < c)) (smp bits ch t v) z) = Ii (ch : Int) bits (smp bits ch t v)
 | 0, c, q + 1, hc, _ => by
  rw [Dj, Iq, if_neg (by rw [Af]; simp; omega), Aqm (fun k hk => by have := Nat.mod_lt k (show 0 < ch by omega); simp; omega)]
 | j + 1, c, q + 1, hc, hq => by
  have ih := Ax4 hb ht h1 h6 hv z j (c + 1) q (by omega) (by omega)
  have hin := Ayc (Dj v (ch : Int) bits t q) hb ht h1 h6 hv z c (by omega) v.length c Ba (Nat.mod_eq_of_lt (by omega)) (by omega) (by omega) (by have := Au; omega)
  have h0 : cst bits ch t v c c = (0, t, List.replicate 16 0) := Bfw ch c _ _ c (Nat.le_refl _) (by omega)
  rw [h0] at hin
  have hcong : sel (fun k => decide (k % ch < c ∨ (k % ch = c ∧ k < c))) (smp bits ch t v) z = sel (fun k => decide (k % ch < c)) (smp bits ch t v) z := by
   apply Yf
   intro k hk
   have := Nat.mod_le k ch
   rw [Bool.eq_iff_iff]
   simp only [decide_eq_true_eq]
   omega
  rw [hcong] at hin
  rw [Dj, Iq, if_pos (by rw [Af]; simp; omega), Bsc hb, Aa]
  simp only
  rw [On]
  exact Eq.trans hin ih
theorem Bhb (hb : Du bits) (ht : t.length = 16) (h1 : 1 ≤ ch) (h6 : ch ≤ 6) (hv : v.length ≤ 4000) (hm : v.length % ch = 0) : Cp (ch : Int) bits t v = some (unm ch (smp bits ch t v)) := by
 have hlen := Ano bits ch t v
 have h := Ax4 hb ht h1 h6 hv (List.replicate v.length 0) ch 0 Ba (by omega) (by have := Au; omega)
 rw [Aql (by rw [hlen]; simp) (fun k _ => by simp)] at h
 rw [Cp, Qn, Ac, At9 (by omega) (by omega), Aa, Cm (by rw [Cg]; simp), Aa, Oy]
 refine Eq.trans h ?_
 rw [Ii, Yn, Biy ch _ h1 h6 (by rw [hlen]; exact hm) (by omega), Aa]
end
def hB (bits : Int) : Int := if bits = 8 then 128 else if bits = 16 then 32768 else 8388608
theorem Bkv {bits : Int} (h : Du bits) : Adf bits = some (Int32.ofInt (-(hB bits)), Int32.ofInt (hB bits - 1), 0) := by
 obtain rfl | rfl | rfl := h <;> decide
theorem Axa {bits : Int} (h : Du bits) : Mh bits = some (hB bits) := by
 obtain rfl | rfl | rfl := h <;> rfl
theorem Awm (bits : Int) : 0 < hB bits ∧ hB bits ≤ 8388608 := by
 unfold hB; split; · omega
 ·split <;> omega
theorem At1 {bits : Int} (h : Du bits) (l : List Int32) (hl : l.length ≤ 4000) : ∀ (j i q : Nat), i + j = l.length → j < q →
  Of (Int32.ofInt (-(hB bits))) (Int32.ofInt (hB bits - 1)) l q (i : Int) = Bm l (hB bits) q (i : Int)
 | 0, i, q + 1, hi, _ => by
  rw [Of, Yt, Bm, Dz, if_neg (by rw [Af, Ac]; simp; omega), if_neg (by rw [Af, Ac]; simp; omega)]; rfl
 | j + 1, i, q + 1, hi, hq => by
  have hh := Awm bits
  have ih := At1 h l hl j (i + 1) q (by omega) (by omega)
  have e1 : (Int32.ofInt (-(hB bits))).toInt = -(hB bits) := by rw [Int32.toInt_ofInt, Int.bmod_eq_of_le (by show -(4294967296 / 2 : Int) ≤ _; omega) (by show _ < (4294967296 + 1) / 2; omega)]
  have e2 : (Int32.ofInt (hB bits - 1)).toInt = hB bits - 1 := by rw [Int32.toInt_ofInt, Int.bmod_eq_of_le (by show -(4294967296 / 2 : Int) ≤ _; omega) (by show _ < (4294967296 + 1) / 2; omega)]
  rw [Of, Yt, Bm, Dz, if_pos (by rw [Af, Ac]; simp; omega), if_pos (by rw [Af, Ac]; simp; omega), g32 (by omega), Aa, Aa, Aa, Ek, Bfa, Bt (by omega) (by omega), Ag (by omega) (by omega), Azn, Bea, e1, e2, Af, Cz]
  generalize (l.getD i 0).toInt = X
  by_cases h1 : X < -(hB bits)
  ·rw [if_pos (by simp; omega), if_pos (by simp; omega)]
  ·rw [if_neg (c := decide (X < 0 - hB bits) = true) (by simp; omega)]
   by_cases h2 : hB bits ≤ X
   ·rw [if_pos (by simp; omega), if_pos (by simp; omega)]
   ·rw [if_neg (by simp; omega), if_neg (by simp; omega)]; exact ih
theorem Atl {bits : Int} (h : Du bits) (l : List Int32) (hl : l.length ≤ 4000) : Adl bits l = cadenzaref18_Check bits l := by
 have hh := Awm bits
 rw [Adl, Afc, Bkv h, Aa, cadenzaref18_Check, Hj, Axa h, Aa]
 simp only
 rw [if_neg (by rw [Am]; simp), if_neg (by rw [Bb, Ac]; simp; omega), if_neg (by rw [Cg]; simp; omega), if_neg (by rw [Bb, Ac]; simp; omega)]
 exact At1 h l hl l.length 0 Ba (by omega) (by have := Au; omega)
theorem Bd2 {bits : Int} (h : Du bits) (l : List Int32) (hl : l.length ≤ 4000) : ∃ e, cadenzaref18_Check bits l = some e := by
 have hh := Awm bits
 have key : ∀ (j i q : Nat), i + j = l.length → j < q → ∃ e, Bm l (hB bits) q (i : Int) = some e := by
  intro j
  induction j with
  | zero =>
   intro i q hi hq
   obtain ⟨q, rfl⟩ : ∃ k, q = k + 1 := ⟨q - 1, by omega⟩
   rw [Bm, Dz, if_neg (by rw [Af, Ac]; simp; omega)]
   exact ⟨_, rfl⟩
  | succ j ih =>
   intro i q hi hq
   obtain ⟨q, rfl⟩ : ∃ k, q = k + 1 := ⟨q - 1, by omega⟩
   rw [Bm, Dz, if_pos (by rw [Af, Ac]; simp; omega), g32 (by omega), Aa, Aa, Ag (by omega) (by omega)]
   split
   ·exact ⟨_, rfl⟩
   ·split
    ·exact ⟨_, rfl⟩
    ·exact ih (i + 1) q (by omega) (by omega)
 obtain ⟨e, he⟩ := key l.length 0 Ba (by omega) (by have := Au; omega)
 rw [cadenzaref18_Check, Hj, Axa h, Aa, if_neg (by rw [Cg]; simp; omega), if_neg (by rw [Bb, Ac]; simp; omega)]
 exact ⟨e, he⟩
theorem Ay3 {bits : Int} {ch : Nat} {t : List Int32} {v : List UInt32} (hb : Du bits) (ht : t.length = 16) (h1 : 1 ≤ ch) (h6 : ch ≤ 6) (hv : v.length ≤ 4000) (hm : v.length % ch = 0) :
  ∃ l e, Cp (ch : Int) bits t v = some l ∧ Di (ch : Int) bits l = some (if e ≠ 0 then ([], e) else (l, 0)) ∧ Qx (ch : Int) bits t v = some (if e ≠ 0 then ([], e) else (l, 0)) ∧ cadenzaref18_Check bits l = some e ∧ l.length = v.length := by
 have hlen := Ano bits ch t v
 have hul := Anp ch (smp bits ch t v)
 obtain ⟨e, he⟩ := Bd2 hb (unm ch (smp bits ch t v)) (by omega)
 refine ⟨unm ch (smp bits ch t v), e, Bhb hb ht h1 h6 hv hm, ?_, ?_, he, by omega⟩
 ·rw [Di, he, Aa]
  by_cases h : e = 0
  ·rw [if_neg (by rw [Am]; simpa using h), if_neg (by simpa using h)]
  ·rw [if_pos (by rw [Am]; simpa using h), if_pos h]
 ·rw [Bht hb ht h1 h6 hv, Je, Ael, Bpb ch _ h1 h6 (by rw [hlen]; exact hm) (by omega), Aa]
  simp only
  rw [if_neg (by rw [Am]; simp), Atl hb _ (by omega), he, Aa]
  by_cases h : e = 0
  ·rw [if_neg (by rw [Am]; simpa using h), if_neg (by simpa using h)]
  ·rw [if_pos (by rw [Am]; simpa using h), if_pos h]
end Go.Pl
set_option linter.unusedVariables false
set_option linter.unusedSimpArgs false
namespace Go.Pl
open Go Go.Lv
def Amt (s : Nat) : Nat := (s / 2) ^^^ (if s % 2 = 1 then 3988292384 else 0)
theorem Au8 {s : Nat} (h : s < 4294967296) : Amt s < 4294967296 := by
 unfold Amt
 exact Nat.xor_lt_two_pow (n := 32) (by simp; omega) (by split <;> decide)
theorem Bbu (x y : Nat) : (x ^^^ y) / 2 = (x / 2) ^^^ (y / 2) := by
 have := Nat.shiftRight_xor_distrib (a := x) (b := y) (i := 1)
 simpa [Nat.shiftRight_eq_div_pow] using this
theorem Bhg (x y : Nat) : Amt (x ^^^ y) = Amt x ^^^ Amt y := by
 have h : (x ^^^ y) % 2 = (x % 2 + y % 2) % 2 := by
  have := Nat.xor_mod_two_eq_one (a := x) (b := y)
  have h1 : (x ^^^ y) % 2 < 2 := Nat.mod_lt _ (by omega)
  omega
 simp only [Amt, Bbu, h]
 have hx : x % 2 = 0 ∨ x % 2 = 1 := by omega
 have hy : y % 2 = 0 ∨ y % 2 = 1 := by omega
 rcases hx with hx | hx <;> rcases hy with hy | hy <;> simp only [hx, hy] <;> simp
 ·rw [Nat.xor_assoc]
 ·rw [Nat.xor_assoc, Nat.xor_comm (y / 2), Nat.xor_assoc, Nat.xor_comm 3988292384 (y/2)]
 ·rw [Nat.xor_assoc, Nat.xor_comm 3988292384, Nat.xor_assoc, Nat.xor_self]; simp
def Vn : Nat → Nat → Nat
 | 0, s => s
 | k + 1, s => Vn k (Amt s)
theorem Aw5 : ∀ (k x y : Nat), Vn k (x ^^^ y) = Vn k x ^^^ Vn k y
 | 0, _, _ => rfl
 | k + 1, x, y => by rw [Vn, Bhg, Aw5 k]; rfl
theorem Ayo : ∀ (k h : Nat), Vn k (2 ^ k * h) = h
 | 0, h => by simp [Vn]
 | k + 1, h => by
  have : Amt (2 ^ (k + 1) * h) = 2 ^ k * h := by
   rw [Nat.pow_succ, Nat.mul_comm (2 ^ k) 2, Nat.mul_assoc, Amt, if_neg (by omega), Nat.mul_div_cancel_left _ (by omega)]; simp
  rw [Vn, this, Ayo k]
theorem Aup : ∀ (k : Nat) {s : Nat}, s < 4294967296 → Vn k s < 4294967296
 | 0, _, h => h
 | k + 1, _, h => Aup k (Au8 h)
def Asi (s c : Nat) : Nat := Vn 8 (s ^^^ c)
theorem Aut {s c : Nat} (h : s < 4294967296) (hc : c < 256) : Asi s c < 4294967296 := Aup 8 (Nat.xor_lt_two_pow (n := 32) (by simpa using h) (by simp; omega))
theorem Bbv {s c : Nat} (hc : c < 256) : Asi s c = (s / 256) ^^^ Vn 8 ((s % 256) ^^^ c) := by
 have h : s = (2 ^ 8 * (s / 256)) ^^^ (s % 256) := by
  have h1 : s % 256 < 2 ^ 8 := by simpa using Nat.mod_lt s (by omega : 256 > 0)
  have := Nat.two_pow_add_eq_or_of_lt h1 (s / 256)
  have h2 : 2 ^ 8 * (s / 256) ||| s % 256 = (2 ^ 8 * (s / 256)) ^^^ (s % 256) := by
   apply Nat.eq_of_testBit_eq; intro i
   rw [Nat.testBit_or, Nat.testBit_xor]
   by_cases hi : i < 8
   ·have : (2 ^ 8 * (s / 256)).testBit i = false := by rw [Nat.testBit_two_pow_mul]; simp; omega
    rw [this]; simp
   ·have : (s % 256).testBit i = false := Nat.testBit_lt_two_pow (Nat.lt_of_lt_of_le h1 (Nat.pow_le_pow_right (by omega) (by omega)))
    rw [this]; simp
  omega
 rw [Asi]
 conv => lhs; rw [h]
 rw [Nat.xor_assoc, Aw5, Ayo]
def Bh4 (s : Nat) (l : List UInt8) : Nat := l.foldl (fun s c => Asi s c.toNat) s
def Gl (b : List UInt8) : UInt32 := 4294967295 - UInt32.ofNat (Bh4 4294967295 b)
theorem Bn2 (s : UInt32) (c : Nat) (hc : c < 256) : Tj s (Ad (Yq (UInt8.ofNat c) (2 : UInt8)) : Int) = some (UInt32.ofNat (s.toNat / 2 ^^^ (if (s.toNat ^^^ c) % 2 = 1 then 3988292384 else 0))) := by
 have h1 : (Ad (Yq (UInt8.ofNat c) (2 : UInt8)) : Int) = ((c % 2 : Nat) : Int) := by
  rw [Ae5, Bo6, UInt8.toNat_mod, UInt8.toNat_ofNat']
  show ((c % 256 % 2 : Nat) : Int) = _
  omega
 have h2 : geq (Yq s (2 : UInt32)) (1 : UInt32) = decide (s.toNat % 2 = 1) := by
  rw [Azz, Bap, Bool.eq_iff_iff]
  simp only [beq_iff_eq, decide_eq_true_eq]
  rw [← UInt32.toNat_inj, UInt32.toNat_mod]; rfl
 have h3 : Cu s (2 : UInt32) = UInt32.ofNat (s.toNat / 2) := by
  apply UInt32.toNat_inj.1
  rw [Bcc, UInt32.toNat_div, UInt32.toNat_ofNat']
  show s.toNat / 2 = _
  have := s.toNat_lt
  omega
 have h4 : Wh (Cu s (2 : UInt32)) (3988292384 : UInt32) = UInt32.ofNat (s.toNat / 2 ^^^ 3988292384) := by
  apply UInt32.toNat_inj.1
  rw [h3, Ap1, UInt32.toNat_xor, UInt32.toNat_ofNat', UInt32.toNat_ofNat']
  have := s.toNat_lt
  rw [Nat.mod_eq_of_lt (a := s.toNat / 2) (by omega), Nat.mod_eq_of_lt]
  ·rfl
  ·exact Nat.xor_lt_two_pow (n := 32) (by omega) (by decide)
 have hx : (s.toNat ^^^ c) % 2 = (s.toNat % 2 + c % 2) % 2 := by
  have := Nat.xor_mod_two_eq_one (a := s.toNat) (b := c)
  have h1 : (s.toNat ^^^ c) % 2 < 2 := Nat.mod_lt _ (by omega)
  omega
 have hs : s.toNat % 2 = 0 ∨ s.toNat % 2 = 1 := by omega
 have hc2 : c % 2 = 0 ∨ c % 2 = 1 := by omega
 rw [Tj, Tz, h1, h2, hx]
 rcases hs with hs | hs <;> rcases hc2 with hc2 | hc2 <;> simp [hs, hc2, Cg, Uq, Ach, Ap1, h3]
theorem Asc : ∀ (j i q : Nat) (s : UInt32) (c : Nat), i + j = 8 → j < q → c < 2 ^ j → Fw q s (UInt8.ofNat c) (i : Int) = some (UInt32.ofNat (Vn j (s.toNat ^^^ c)))
 | 0, i, q + 1, s, c, hi, _, hc => by
  obtain rfl : i = 8 := by omega
  obtain rfl : c = 0 := by simpa using hc
  rw [Fw, Mk, if_neg (by rw [Af]; simp), Uv, Adk, Vn]
  simp
 | j + 1, i, q + 1, s, c, hi, hq, hc => by
  have hc8 : c < 256 := Nat.lt_of_lt_of_le hc (show 2 ^ (j + 1) ≤ 2 ^ 8 from Nat.pow_le_pow_right (by omega) (by omega))
  rw [Fw, Mk, if_pos (by rw [Af]; simp; omega), Bn2 s c hc8, Aa, Ag (by omega) (by omega)]
  have e : Cu (UInt8.ofNat c) (2 : UInt8) = UInt8.ofNat (c / 2) := by
   apply UInt8.toNat_inj.1
   rw [Bm2, UInt8.toNat_div, UInt8.toNat_ofNat', UInt8.toNat_ofNat']
   show c % 256 / 2 = _
   omega
  rw [e]
  have h := Asc j (i + 1) q (UInt32.ofNat (s.toNat / 2 ^^^ (if (s.toNat ^^^ c) % 2 = 1 then 3988292384 else 0))) (c / 2) (by omega) (by omega) (by rw [Nat.pow_succ] at hc; omega)
  rw [show ((i : Int) + 1) = ((i + 1 : Nat) : Int) by omega, h, UInt32.toNat_ofNat', Vn]
  congr 3
  have := s.toNat_lt
  rw [Nat.mod_eq_of_lt, Amt, Bbu, Nat.xor_assoc, Nat.xor_assoc, Nat.xor_comm (c / 2)]
  exact Nat.xor_lt_two_pow (n := 32) (by omega) (by split <;> decide)
theorem Boq (s : UInt32) (c : UInt8) : Aal s c = some (UInt32.ofNat (Asi s.toNat c.toNat)) := by
 have h := Asc 8 0 Ba s c.toNat (by omega) (by have := Au; omega) (by simpa using c.toNat_lt)
 rw [UInt8.ofNat_toNat] at h
 exact h
theorem Aog (b : List UInt8) (hb : b.length < 4611686018427387904) : ∀ (j i q : Nat) (s : UInt32), i + j = b.length → j < q → Ev b q s (i : Int) = some (UInt32.ofNat (Bh4 s.toNat (b.drop i)))
 | 0, i, q + 1, s, hi, _ => by
  rw [Ev, Jk, if_neg (by rw [Af, Ac]; simp; omega), show i = b.length by omega, List.drop_length]
  simp [Qv, Ze, Bh4]
 | j + 1, i, q + 1, s, hi, hq => by
  have hlt : i < b.length := by omega
  rw [Ev, Jk, if_pos (by rw [Af, Ac]; simp; omega), Ds hlt, Aa, Boq, Aa, Ag (by omega) (by omega)]
  have h := Aog b hb j (i + 1) q (UInt32.ofNat (Asi s.toNat b[i].toNat)) (by omega) (by omega)
  rw [show ((i : Int) + 1) = ((i + 1 : Nat) : Int) by omega, h, drop_cons hlt, UInt32.toNat_ofNat', Nat.mod_eq_of_lt (Aut s.toNat_lt b[i].toNat_lt)]
  rfl
theorem Bkf (b : List UInt8) (hb : b.length < 4611686018427387904) : Ll b = some (Gl b) := by
 have h := Aog b hb b.length 0 Ba 4294967295 (by omega) (by have := Au; omega)
 rw [Ll, Vp, Pu, Qt, show ((0 : Int)) = ((0 : Nat) : Int) from rfl, h, Aa, Bax]; rfl
theorem Boh (c : UInt32) : Wh (Cn c (GI.toZ (1 : UInt64)).toNat) (Bj (3988292384 : UInt32) (Hm c (1 : UInt32))) = UInt32.ofNat (Amt c.toNat) := by
 apply UInt32.toNat_inj.1
 have e : (GI.toZ (1 : UInt64)).toNat = 1 := rfl
 have h1 : (Cn c 1).toNat = c.toNat / 2 := by rw [Aja]
 have h2 : (Bj (3988292384 : UInt32) (Hm c (1 : UInt32))).toNat = if c.toNat % 2 = 1 then 3988292384 else 0 := by
  rw [Bjq, Bc9, UInt32.toNat_mul, UInt32.toNat_and]
  show 3988292384 * (c.toNat &&& 1) % 4294967296 = _
  rw [Nat.and_one_is_mod]
  have : c.toNat % 2 = 0 ∨ c.toNat % 2 = 1 := by omega
  rcases this with h | h <;> simp [h]
 rw [e, Ap1, UInt32.toNat_xor, h1, h2, UInt32.toNat_ofNat', Nat.mod_eq_of_lt (Au8 c.toNat_lt)]; rfl
theorem Bao (bk16 : Int → List UInt32 → Option (UInt32 × Int)) (s : UInt32) (b : List UInt8) (x : Int) (t : List UInt32) : ∀ (j i q : Nat) (c : UInt32), i + j = 8 → j < q →
  Oi bk16 s b x t q c (i : Int) = Zb bk16 s b x (UInt32.ofNat (Vn j c.toNat)) t
 | 0, i, q + 1, c, hi, _ => by
  obtain rfl : i = 8 := by omega
  rw [Oi, Zs, if_neg (by rw [Af]; simp), Vn, UInt32.ofNat_toNat]
 | j + 1, i, q + 1, c, hi, hq => by
  rw [Oi, Zs, if_pos (by rw [Af]; simp; omega), Boh, Ag (by omega) (by omega), show ((i : Int) + 1) = ((i + 1 : Nat) : Int) by omega, Bao bk16 s b x t j (i + 1) q _ (by omega) (by omega), UInt32.toNat_ofNat', Nat.mod_eq_of_lt (Au8 c.toNat_lt)]; rfl
def tbl (n : Nat) : List UInt32 := (List.range n).map fun i => UInt32.ofNat (Vn 8 i)
theorem Bgq (s : UInt32) (b : List UInt8) : ∀ (j i q : Nat), i + j = 256 → j < q → Kf s b q (i : Int) (tbl i ++ List.replicate j 0) = Za s b (tbl 256)
 | 0, i, q + 1, hi, _ => by
  obtain rfl : i = 256 := by omega
  rw [Kf, Zr, if_neg (by rw [Af]; simp)]; simp
 | j + 1, i, q + 1, hi, hq => by
  have hlen : (tbl i ++ List.replicate (j + 1) 0).length = i + (j + 1) := by simp [tbl]
  rw [Kf, Zr, if_pos (by rw [Af]; simp; omega), Agj]
  have h := Bao (Kf s b q) s b (i : Int) (tbl i ++ List.replicate (j + 1) 0) 8 0 Ba (Ad (i : Int)) (by omega) (by have := Au; omega)
  rw [show ((0 : Int)) = ((0 : Nat) : Int) from rfl, h, Zb, Afo, Ds (by rw [hlen]; omega), Aa, Vz _ (by rw [hlen]; omega), Aa, Agm, Amz, Ag (by omega) (by omega)]
  have e : (Ad (i : Int) : UInt32).toNat = i := by rw [Axe, UInt32.toNat_ofNat', Nat.mod_eq_of_lt (by omega)]
  rw [e, List.replicate_succ, Anl (by simp [tbl])]
  have h2 := Bgq s b j (i + 1) q (by omega) (by omega)
  have h3 : tbl (i + 1) = tbl i ++ [UInt32.ofNat (Vn 8 i)] := by simp [tbl, List.range_succ]
  rw [h3] at h2
  rw [show ((i : Int) + 1) = ((i + 1 : Nat) : Int) by omega, ← h2]
  simp
theorem Bnx {i : Nat} (h : i < 256) : getI (tbl 256) (i : Int) = some (UInt32.ofNat (Vn 8 i)) := by
 rw [Ds (by simpa [tbl] using h)]; simp [tbl]
theorem Bk7 (s : UInt32) (c : UInt8) : getI (tbl 256) (GI.toZ (Wh (Ad s : UInt8) c)) = some (UInt32.ofNat (Vn 8 ((s.toNat % 256) ^^^ c.toNat))) := by
 have e : GI.toZ (Wh (Ad s : UInt8) c) = (((s.toNat % 256) ^^^ c.toNat : Nat) : Int) := by
  rw [Xe, Bgd, UInt8.toNat_xor, Ao5, UInt8.toNat_ofNat']
 rw [e, Bnx]
 exact Nat.xor_lt_two_pow (n := 8) (by simp; omega) (by simpa using c.toNat_lt)
theorem Bie (s : UInt32) (c : UInt8) : Wh (Cn s (GI.toZ (8 : UInt64)).toNat) (UInt32.ofNat (Vn 8 ((s.toNat % 256) ^^^ c.toNat))) = UInt32.ofNat (Asi s.toNat c.toNat) := by
 apply UInt32.toNat_inj.1
 have hlt : Vn 8 ((s.toNat % 256) ^^^ c.toNat) < 4294967296 := Aup 8 (Nat.xor_lt_two_pow (n := 32) (by simp; omega) (by have := c.toNat_lt; simp; omega))
 have e : (GI.toZ (8 : UInt64)).toNat = 8 := rfl
 rw [e, Ap1, UInt32.toNat_xor, Aja, UInt32.toNat_ofNat', UInt32.toNat_ofNat', Nat.mod_eq_of_lt hlt, Nat.mod_eq_of_lt (Aut s.toNat_lt c.toNat_lt), Bbv c.toNat_lt]
theorem Bdk (b : List UInt8) (hb : b.length < 4611686018427387904) : ∀ (j i q : Nat) (s : UInt32), i + j = b.length → j < q → Oj b (tbl 256) q s (i : Int) = some (UInt32.ofNat (Bh4 s.toNat (b.drop i)), 0)
 | 0, i, q + 1, s, hi, _ => by
  rw [Oj, Zg, if_neg (by rw [Af, Ac]; simp; omega), show i = b.length by omega, List.drop_length]
  simp [Afm, Al0, Bh4]
 | j + 1, i, q + 1, s, hi, hq => by
  have hlt : i < b.length := by omega
  rw [Oj, Zg, if_pos (by rw [Af, Ac]; simp; omega), Ds hlt, Aa, Bk7, Aa, Aa, Bie, Ag (by omega) (by omega)]
  have h := Bdk b hb j (i + 1) q (UInt32.ofNat (Asi s.toNat b[i].toNat)) (by omega) (by omega)
  rw [show ((i : Int) + 1) = ((i + 1 : Nat) : Int) by omega, h, drop_cons hlt, UInt32.toNat_ofNat', Nat.mod_eq_of_lt (Aut s.toNat_lt b[i].toNat_lt)]
  rfl
theorem Bng (s : UInt32) (b : List UInt8) (hb : b.length ≤ 100000) : Akj s b = some (UInt32.ofNat (Bh4 s.toNat b), 0) := by
 have h := Bgq s b 256 0 Ba (by omega) (by have := Au; omega)
 have h2 := Bdk b (by omega) b.length 0 Ba s (by omega) (by have := Au; omega)
 rw [Akj, Aia, if_neg (by rw [Bb, Ac]; simp; omega), Afv]
 refine Eq.trans h ?_
 rw [Za, Agh, Afj, Agt, Afh]
 exact h2
theorem Bmq (a : UInt32) : Atr a = 4294967295 - a := by
 have h := a.toNat_lt
 have e : Atr a = UInt32.ofNat (BitVec.ofInt 32 4294967295 ^^^ BitVec.ofInt 32 (a.toNat : Int)).toNat := Dx _
 apply UInt32.toNat_inj.1
 rw [e, UInt32.toNat_ofNat', UInt32.toNat_sub_of_le _ _ (by rw [UInt32.le_iff_toNat_le]; show a.toNat ≤ 4294967295; omega)]
 have h1 : BitVec.ofInt 32 (a.toNat : Int) = a.toBitVec := Bac a
 have h2 : (BitVec.ofInt 32 4294967295 : BitVec 32) = BitVec.allOnes 32 := by decide
 rw [h1, h2, BitVec.allOnes_xor, BitVec.toNat_not]
 show (4294967296 - 1 - a.toNat) % 4294967296 = 4294967295 - a.toNat
 omega
theorem Be4 (b : List UInt8) (hb : b.length ≤ 100000) : Ae8 b = some (Gl b, 0) := by
 rw [Ae8, Bng _ _ hb, Aa]
 simp only [Am, Bmq]
 rfl
end Go.Pl
set_option linter.unusedVariables false
set_option linter.unusedSimpArgs false
namespace Go.Pl
open Go Go.Lv
theorem Bfx : ∀ {l m : List UInt8}, l.length = m.length → Dy l = Dy m → l = m
 | [], [], _, _ => rfl
 | x :: l, y :: m, h, e => by
  simp only [Dy] at e
  have hx := x.toNat_lt
  have hy := y.toNat_lt
  have h1 : x = y := UInt8.toNat_inj.1 (by omega)
  rw [h1, Bfx (l := l) (m := m) (by simpa using h) (by omega)]
theorem Az9 : ∀ (w n : Nat), Dy (leB n w) = n % 256 ^ w
 | 0, n => by simp [leB, Dy, Nat.mod_one]
 | w + 1, n => by
  rw [leB, Dy, Az9 w (n / 256), UInt8.toNat_ofNat', show (256 : Nat) ^ (w + 1) = 256 * 256 ^ w by rw [Nat.pow_succ, Nat.mul_comm], Nat.mod_mul]
def Xz (b : List UInt8) : Int :=
 if b.length < 5 then 24 else if 41254 < b.length then 4 else if (Gl (b.take (b.length - 4))).toNat ≠ Dy (b.drop (b.length - 4)) then 22 else 0
theorem Bcb (b : List UInt8) : Zh b = some (if Xz b ≠ 0 then ([], Xz b) else (b.take (b.length - 4), 0)) := by
 rw [Zh]
 by_cases h1 : b.length < 5
 ·have hS : Xz b = 24 := by rw [Xz, if_pos h1]
  rw [if_pos (by rw [Af, Ac]; simp; omega), hS]; rfl
 rw [if_neg (by rw [Af, Ac]; simp; omega)]
 by_cases h2 : 41254 < b.length
 ·have hS : Xz b = 4 := by rw [Xz, if_neg h1, if_pos h2]
  rw [if_pos (by rw [Bb, Ac]; simp; omega), hS]; rfl
 have e4 : Ak (Ac b) 4 = ((b.length - 4 : Nat) : Int) := by rw [Ac, Bg (by omega) (by omega)]; omega
 have hd : (b.drop (b.length - 4)).length = 4 := by simp; omega
 rw [if_neg (by rw [Bb, Ac]; simp; omega), e4, Jm (by omega) (by omega), Aa, show ((b.length - 4 : Nat) : Int).toNat = b.length - 4 from rfl, Be4 _ (by simp; omega), Aa]
 simp only
 rw [if_neg (by rw [Am]; simp), Lk (by omega) (by omega), Aa, show ((b.length - 4 : Nat) : Int).toNat = b.length - 4 from rfl, Bau _ (by omega) (by omega), Aa]
 have hne : Ct (leU (b.drop (b.length - 4))) (Ad (Gl (b.take (b.length - 4))) : UInt64) = decide ((Gl (b.take (b.length - 4))).toNat ≠ Dy (b.drop (b.length - 4))) := by
  have hlt := (Gl (b.take (b.length - 4))).toNat_lt
  rw [Aeq, Bool.eq_iff_iff]
  simp only [bne_iff_ne, ne_eq, ← UInt64.toNat_inj, decide_eq_true_eq]
  rw [Ag7 (by omega), Gv, UInt64.toNat_ofNat', Nat.mod_eq_of_lt (by omega)]
  exact ⟨fun h e => h e.symm, fun h e => h e.symm⟩
 simp only
 rw [hne, Aa]
 by_cases h3 : (Gl (b.take (b.length - 4))).toNat ≠ Dy (b.drop (b.length - 4))
 ·have hS : Xz b = 22 := by rw [Xz, if_neg h1, if_neg h2, if_pos h3]
  rw [if_pos (by simp [h3]), hS]; rfl
 ·have hS : Xz b = 0 := by rw [Xz, if_neg h1, if_neg h2, if_neg h3]
  rw [if_neg (by rw [decide_eq_false h3]; decide), hS]; rfl
theorem Bhn (b : List UInt8) (hb : b.length ≤ 1000000) : Nu b = some (b ++ leB (Gl b).toNat 4) := by
 have h : ∀ k : Nat, (Ad (Cn (Gl b) k) : UInt8) = UInt8.ofNat ((Gl b).toNat / 2 ^ k) := by
  intro k; rw [Ao5, Aja]
 have h0 : (Ad (Gl b) : UInt8) = UInt8.ofNat (Gl b).toNat := Ao5 _
 have h1 := h 8
 have h2 := h 16
 have h3 := h 24
 rw [Nu, Bkf b (by omega), Aa, Gc (by simp; omega), Aa, Gc (by simp; omega), Aa, h0, show (GI.toZ (8 : UInt64)).toNat = 8 from rfl, show (GI.toZ (16 : UInt64)).toNat = 16 from rfl, show (GI.toZ (24 : UInt64)).toNat = 24 from rfl, h1, h2, h3]
 simp only [leB, Nat.div_div_eq_div_mul, List.nil_append]
theorem Bej (b : List UInt8) : Ja b = some (Xz b) := by
 rw [Ja]
 by_cases h1 : b.length < 5
 ·rw [if_pos (by rw [Af, Ac]; simp; omega), Xz, if_pos h1]
 rw [if_neg (by rw [Af, Ac]; simp; omega)]
 by_cases h2 : 41254 < b.length
 ·rw [if_pos (by rw [Bb, Ac]; simp; omega), Xz, if_neg h1, if_pos h2]
 have e4 : Ak (Ac b) 4 = ((b.length - 4 : Nat) : Int) := by rw [Ac, Bg (by omega) (by omega)]; omega
 have hd : (b.drop (b.length - 4)).length = 4 := by simp; omega
 rw [if_neg (by rw [Bb, Ac]; simp; omega), e4, Jm (by omega) (by omega), Aa, show ((b.length - 4 : Nat) : Int).toNat = b.length - 4 from rfl, Bhn _ (by simp; omega), Aa]
 have hlt := (Gl (b.take (b.length - 4))).toNat_lt
 have hiff : (b.take (b.length - 4) ++ leB (Gl (b.take (b.length - 4))).toNat 4 != b) = decide ((Gl (b.take (b.length - 4))).toNat ≠ Dy (b.drop (b.length - 4))) := by
  rw [Bool.eq_iff_iff]
  simp only [bne_iff_ne, ne_eq, decide_eq_true_eq]
  constructor
  ·intro h e
   apply h
   have : leB (Gl (b.take (b.length - 4))).toNat 4 = b.drop (b.length - 4) := Bfx (by rw [Nk, hd]) (by rw [Az9, Nat.mod_eq_of_lt (by omega), e])
   rw [this, List.take_append_drop]
  ·intro h e
   apply h
   have hx : leB (Gl (b.take (b.length - 4))).toNat 4 = b.drop (b.length - 4) := by
    have e2 : b.take (b.length - 4) ++ leB (Gl (b.take (b.length - 4))).toNat 4 = b.take (b.length - 4) ++ b.drop (b.length - 4) := by rw [e, List.take_append_drop]
    exact List.append_cancel_left e2
   rw [← hx, Az9, Nat.mod_eq_of_lt (by omega)]
 rw [hiff]
 by_cases h3 : (Gl (b.take (b.length - 4))).toNat ≠ Dy (b.drop (b.length - 4))
 ·rw [if_pos (by simp [h3]), Xz, if_neg h1, if_neg h2, if_pos h3]
 ·rw [if_neg (by rw [decide_eq_false h3]; decide), Xz, if_neg h1, if_neg h2, if_neg h3]
theorem Bj8 {b : List UInt8} (h : Xz b = 0) : 5 ≤ b.length ∧ b.length ≤ 41254 := by
 unfold Xz at h
 split at h
 ·simp at h
 ·split at h
  ·simp at h
  ·omega
theorem Bpe {c : Nat} (h1 : 1 ≤ c) (h6 : c ≤ 6) : Cu (4000 : Int) (c : Int) = ((4000 / c : Nat) : Int) := by
 have : c = 1 ∨ c = 2 ∨ c = 3 ∨ c = 4 ∨ c = 5 ∨ c = 6 := by omega
 rcases this with rfl | rfl | rfl | rfl | rfl | rfl <;> rfl
theorem Bm1 (p : List UInt8) (h : p.length ≤ 41250) : okB p (8 * p.length) := ⟨by omega, by omega, fun k h1 h2 => by omega⟩
theorem Bay {bits : Int} {ch n : Nat} {t : List Int32} (b : List UInt8) (hb : Du bits) (ht : t.length = 16) (h1 : 1 ≤ ch) (h6 : ch ≤ 6) (n1 : 1 ≤ n) (n2 : n ≤ 4000 / ch) :
  ∃ l e, deframe_Decode (ch : Int) bits t (n : Int) b = some (l, e) ∧ cadenzaref21_Decode (ch : Int) bits t (n : Int) b = some (l, e) ∧ (e = 0 → cadenzaref18_Check bits l = some 0 ∧ l.length ≤ 4000 ∧ l.length = n * ch) ∧ (e ≠ 0 → l = []) := by
 have hn : n * ch ≤ 4000 := by
  have := Nat.mul_le_mul_right ch n2
  have h2 := Nat.div_mul_le_self 4000 ch
  omega
 have hq4 := Bpe h1 h6
 generalize 4000 / ch = mm at *
 have hck : Ab7 (ch : Int) bits = some 0 := by
  have hr : ∃ x y, Adf bits = some (x, y, 0) := ⟨_, _, Bkv hb⟩
  obtain ⟨x, y, hr⟩ := hr
  rw [Ab7, hr, Aa]
  simp only
  rw [if_neg (by simp [Am, Af, Bb]; omega)]
 have hh := Awm bits
 have hasked : Qf (ch : Int) bits (n : Int) = some 0 := by
  rw [Qf, Xk, if_neg (by simp [Af, Bb]; omega), Axa hb, Aa, if_neg (by rw [Cg]; simp; omega), Aa, if_neg (by simp [Am, Af]; omega), Cm (by rw [Am]; simp; omega), Aa, hq4, if_neg (by rw [Bb]; simp; omega)]
 rw [deframe_Decode, cadenzaref21_Decode, Qg, hck, hasked, Aa, Aa, if_neg (by rw [Am]; simp), if_neg (by rw [Af]; simp; omega), Cm (by rw [Am]; simp; omega), Aa, hq4, if_neg (by rw [Bb]; simp; omega), if_neg (by rw [Am]; simp), Bcb, Bej]
 by_cases hs : Xz b ≠ 0
 ·rw [if_pos hs]
  simp only [Aa]
  rw [if_pos (by rw [Am]; simpa using hs), if_pos (by rw [Am]; simpa using hs)]
  exact ⟨[], Xz b, rfl, rfl, fun e => absurd e hs, fun _ => rfl⟩
 have hs0 : Xz b = 0 := by simpa using hs
 have hlen := Bj8 hs0
 have e4 : Ak (Ac b) 4 = ((b.length - 4 : Nat) : Int) := by rw [Ac, Bg (by omega) (by omega)]; omega
 rw [if_neg hs, hs0]
 simp only [Aa]
 rw [if_neg (by rw [Am]; simp), if_neg (by rw [Am]; simp), e4, Jm (by omega) (by omega), Aa, show ((b.length - 4 : Nat) : Int).toNat = b.length - 4 from rfl]
 have hpl : (b.take (b.length - 4)).length = b.length - 4 := by simp
 generalize b.take (b.length - 4) = p at *
 have e8 : Bj (8 : Int) (Ac p) = ((8 * p.length : Nat) : Int) := by rw [Ac, Gz (by omega) (by omega)]; omega
 have hp := Bm1 p (by omega)
 have hv := values_eq hp h1 h6 hn
 have hr := Boi (N := 8 * p.length) (p := p) rfl (by omega) h1 h6 hn
 have hat := Baf (ch := ch) (p := p) (N := 8 * p.length) (n * ch) 0 [] (by omega)
 rw [Ay9, if_neg (by rw [Bb, Ac]; simp; omega), Gk, Gc (by simp; omega), Aa, Aa, Aa, List.nil_append, e8]
 simp only
 rw [if_neg (by rw [Am]; simp), hv, hr, Aa, Aa]
 generalize Yr ch p (8 * p.length) (n * ch) 0 [] = V at *
 obtain ⟨v, at', e⟩ := V
 simp only at *
 by_cases he : e ≠ 0
 ·rw [if_pos he, if_pos he]
  simp only
  rw [if_pos (by rw [Am]; simpa using he), Jj, Gm, if_pos (by rw [Am]; simpa using he)]
  exact ⟨[], e, rfl, rfl, fun h => absurd h he, fun _ => rfl⟩
 have he0 : e = 0 := by simpa using he
 have hvl := hat.2.2 he0
 simp only [List.length_nil, Nat.zero_add] at hvl
 rw [if_neg he, if_neg he]
 simp only
 rw [if_neg (by rw [Am]; simp), Bg (by omega) (by omega), show ((8 * p.length : Nat) : Int) - (at' : Int) = ((8 * p.length - at' : Nat) : Int) by omega, Jj, Gm]
 by_cases h7 : 7 < 8 * p.length - at'
 ·have hE : (if 7 < 8 * p.length - at' ∨ Bs p at' (8 * p.length - at') ≠ 0 then (12 : Int) else 0) = 12 := if_pos (.inl h7)
  rw [if_pos (by rw [Cz]; simp; omega), hE, if_pos (by decide)]
  exact ⟨[], 12, rfl, rfl, fun h => absurd h (by decide), fun _ => rfl⟩
 rw [if_neg (by rw [Cz]; simp; omega), Aq2 hp at' _ (by omega), if_neg (by omega), Aa]
 have hz : Ct (Ud p at' (8 * p.length - at')) (0 : UInt64) = decide (Bs p at' (8 * p.length - at') ≠ 0) := by
  rw [Aeq, Bool.eq_iff_iff]
  simp only [bne_iff_ne, ne_eq, ← UInt64.toNat_inj, decide_eq_true_eq]
  rw [Aao p _ _ (by omega)]; rfl
 simp only
 rw [hz]
 by_cases hv0 : Bs p at' (8 * p.length - at') ≠ 0
 ·have hE : (if 7 < 8 * p.length - at' ∨ Bs p at' (8 * p.length - at') ≠ 0 then (12 : Int) else 0) = 12 := if_pos (.inr hv0)
  rw [if_pos (by simp [hv0]), hE, if_pos (by decide)]
  exact ⟨[], 12, rfl, rfl, fun h => absurd h (by decide), fun _ => rfl⟩
 have hm : v.length % ch = 0 := by rw [hvl]; exact Nat.mul_mod_left n ch
 obtain ⟨l, e, g1, g2, g3, g4, g5⟩ := Ay3 (v := v) hb ht h1 h6 (by omega) hm
 have hE : (if 7 < 8 * p.length - at' ∨ Bs p at' (8 * p.length - at') ≠ 0 then (12 : Int) else 0) = 0 := if_neg (by omega)
 rw [if_neg (by rw [decide_eq_false hv0]; decide), hE, if_neg (by decide), g1, g3, Aa, Aa, g2]
 by_cases hl : e ≠ 0
 ·rw [if_pos hl]
  exact ⟨[], e, rfl, rfl, fun h => absurd h hl, fun _ => rfl⟩
 ·rw [if_neg hl]
  have hl0 : e = 0 := by simpa using hl
  exact ⟨l, 0, rfl, rfl, fun _ => ⟨by rw [g4, hl0], by omega, by omega⟩, fun e => absurd rfl e⟩
end Go.Pl
set_option linter.unusedVariables false
set_option linter.unusedSimpArgs false
namespace Go.Pl
open Go Go.Lv
def P64 : Nat := 4823603603198064275
def Ad1 (s : Nat) : Nat := (2 * s % 18446744073709551616) ^^^ (s / 9223372036854775808 * P64)
theorem Ai6 {s : Nat} (h : s < 18446744073709551616) : Ad1 s < 18446744073709551616 := by
 have h1 : s / 9223372036854775808 = 0 ∨ s / 9223372036854775808 = 1 := by omega
 exact Nat.xor_lt_two_pow (n := 64) (Nat.mod_lt _ (by decide)) (by rcases h1 with e | e <;> rw [e] <;> decide)
theorem Bgu (x y : Nat) : (x ^^^ y) / 9223372036854775808 = (x / 9223372036854775808) ^^^ (y / 9223372036854775808) := by
 have := Nat.shiftRight_xor_distrib (a := x) (b := y) (i := 63)
 simpa [Nat.shiftRight_eq_div_pow] using this
theorem Bf5 (x y : Nat) : 2 * (x ^^^ y) % 18446744073709551616 = (2 * x % 18446744073709551616) ^^^ (2 * y % 18446744073709551616) := by
 have h1 := Nat.shiftLeft_xor_distrib (a := x) (b := y) (i := 1)
 have h2 := Nat.xor_mod_two_pow (a := 2 * x) (b := 2 * y) (n := 64)
 have e : 2 * (x ^^^ y) = (2 * x) ^^^ (2 * y) := by simpa [Nat.shiftLeft_eq, Nat.mul_comm] using h1
 rw [e]; exact h2
theorem Bnp {a b : Nat} (ha : a = 0 ∨ a = 1) (hb : b = 0 ∨ b = 1) (p : Nat) : (a ^^^ b) * p = (a * p) ^^^ (b * p) := by
 rcases ha with rfl | rfl <;> rcases hb with rfl | rfl <;> simp
theorem Bsv (a b c d : Nat) : (a ^^^ b) ^^^ (c ^^^ d) = (a ^^^ c) ^^^ (b ^^^ d) := by
 rw [Nat.xor_assoc, Nat.xor_assoc, ← Nat.xor_assoc b c d, Nat.xor_comm b c, Nat.xor_assoc c b d]
theorem Bdx {x y : Nat} (hx : x < 18446744073709551616) (hy : y < 18446744073709551616) : Ad1 (x ^^^ y) = Ad1 x ^^^ Ad1 y := by
 rw [Ad1, Ad1, Ad1, Bf5, Bgu, Bnp (by omega) (by omega), Bsv]
def Lb : Nat → Nat → Nat
 | 0, s => s
 | k + 1, s => Lb k (Ad1 s)
theorem Aqs : ∀ (k : Nat) {s : Nat}, s < 18446744073709551616 → Lb k s < 18446744073709551616
 | 0, _, h => h
 | k + 1, _, h => Aqs k (Ai6 h)
theorem Awn : ∀ (k : Nat) {x y : Nat}, x < 18446744073709551616 → y < 18446744073709551616 → Lb k (x ^^^ y) = Lb k x ^^^ Lb k y
 | 0, _, _, _, _ => rfl
 | k + 1, x, y, hx, hy => by rw [Lb, Bdx hx hy, Awn k (Ai6 hx) (Ai6 hy)]; rfl
theorem Awe : ∀ (k h : Nat), 2 ^ k * h < 18446744073709551616 → Lb k h = 2 ^ k * h
 | 0, h, _ => by simp [Lb]
 | k + 1, h, hl => by
  have hpos : 0 < 2 ^ k := Nat.pow_pos (by omega)
  rw [Nat.pow_succ, Nat.mul_assoc] at hl
  have h2 : 2 * h < 18446744073709551616 := Nat.lt_of_le_of_lt (Nat.le_mul_of_pos_left _ hpos) hl
  have : Ad1 h = 2 * h := by rw [Ad1, Nat.mod_eq_of_lt h2, show h / 9223372036854775808 = 0 by omega]; simp
  rw [Lb, this, Awe k _ hl, Nat.pow_succ, Nat.mul_assoc]
def Aml (s c : Nat) : Nat := Lb 8 (s ^^^ (c * 72057594037927936))
theorem c56 {c : Nat} (hc : c < 256) : c * 72057594037927936 < 18446744073709551616 := by omega
theorem Aqx {s c : Nat} (h : s < 18446744073709551616) (hc : c < 256) : Aml s c < 18446744073709551616 := Aqs 8 (Nat.xor_lt_two_pow (n := 64) h (c56 hc))
theorem Bnb (s : Nat) : s = (s / 72057594037927936 * 72057594037927936) ^^^ (s % 72057594037927936) := by
 have h1 : s % 72057594037927936 < 2 ^ 56 := Nat.mod_lt _ (by decide)
 have := Nat.two_pow_add_eq_or_of_lt h1 (s / 72057594037927936)
 have h2 : 2 ^ 56 * (s / 72057594037927936) ||| s % 72057594037927936 = (2 ^ 56 * (s / 72057594037927936)) ^^^ (s % 72057594037927936) := by
  apply Nat.eq_of_testBit_eq; intro i
  rw [Nat.testBit_or, Nat.testBit_xor]
  by_cases hi : i < 56
  ·have : (2 ^ 56 * (s / 72057594037927936)).testBit i = false := by rw [Nat.testBit_two_pow_mul]; simp; omega
   rw [this]; simp
  ·have : (s % 72057594037927936).testBit i = false := Nat.testBit_lt_two_pow (Nat.lt_of_lt_of_le h1 (Nat.pow_le_pow_right (by omega) (by omega)))
   rw [this]; simp
 rw [Nat.mul_comm (s / 72057594037927936)]
 show s = (2 ^ 56 * (s / 72057594037927936)) ^^^ _
 rw [← h2, ← this]
 have := Nat.div_add_mod s 72057594037927936
 show s = 72057594037927936 * _ + _
 omega
theorem Bhl (a c : Nat) : (a ^^^ c) * 72057594037927936 = (a * 72057594037927936) ^^^ (c * 72057594037927936) := by
 have h1 := Nat.shiftLeft_xor_distrib (a := a) (b := c) (i := 56)
 simpa [Nat.shiftLeft_eq] using h1
theorem Aze {s c : Nat} (h : s < 18446744073709551616) (hc : c < 256) : Aml s c = (256 * s % 18446744073709551616) ^^^ Lb 8 (((s / 72057594037927936) ^^^ c) * 72057594037927936) := by
 have hs : s / 72057594037927936 < 2 ^ 8 := by show _ < 256; omega
 have hx : (s / 72057594037927936) ^^^ c < 256 := Nat.xor_lt_two_pow (n := 8) hs (by simpa using hc)
 have hl : s % 72057594037927936 < 72057594037927936 := Nat.mod_lt _ (by decide)
 rw [Aml]
 conv => lhs; rw [Bnb s]
 rw [Nat.xor_comm (s / 72057594037927936 * 72057594037927936), Nat.xor_assoc, ← Bhl, Awn 8 (by omega) (c56 hx), Awe 8 _ (by show 256 * _ < _; omega)]
 congr 1
 show 256 * (s % 72057594037927936) = _
 omega
def Atw (s : Nat) (l : List UInt8) : Nat := l.foldl (fun s c => Aml s c.toNat) s
theorem Aw2 {n : Nat} (h : n < 18446744073709551616) : (UInt64.ofNat n).toNat = n := by rw [UInt64.toNat_ofNat']; exact Nat.mod_eq_of_lt h
theorem Bqo (s : UInt64) (bit : Nat) (hb : bit = 0 ∨ bit = 1) : Tg s (bit : Int) = some (UInt64.ofNat ((2 * s.toNat % 18446744073709551616) ^^^ (((s.toNat / 9223372036854775808) ^^^ bit) * P64))) := by
 have hs := s.toNat_lt
 have ht : s.toNat / 9223372036854775808 = 0 ∨ s.toNat / 9223372036854775808 = 1 := by omega
 have e1 : (Bj s (2 : UInt64)).toNat = 2 * s.toNat % 18446744073709551616 := by
  rw [Ac8, UInt64.toNat_mul]; show s.toNat * 2 % _ = _; rw [Nat.mul_comm]
 have hlt : 2 * s.toNat % 18446744073709551616 < 18446744073709551616 := Nat.mod_lt _ (by decide)
 have ey : Wh (Bj s (2 : UInt64)) (4823603603198064275 : UInt64) = UInt64.ofNat ((2 * s.toNat % 18446744073709551616) ^^^ P64) := by
  apply UInt64.toNat_inj.1
  rw [Awo, UInt64.toNat_xor, e1, Aw2 (Nat.xor_lt_two_pow (n := 64) hlt (by decide))]; rfl
 have en : Bj s (2 : UInt64) = UInt64.ofNat (2 * s.toNat % 18446744073709551616) := by
  apply UInt64.toNat_inj.1
  rw [e1, Aw2 hlt]
 have eg : Pr s (9223372036854775808 : UInt64) = decide (s.toNat / 9223372036854775808 = 1) := by
  rw [Bn8, decide_eq_decide]
  show 9223372036854775808 ≤ s.toNat ↔ _
  omega
 have hp : ∀ b : Bool, Mj s b = some (if b = true then UInt64.ofNat ((2 * s.toNat % 18446744073709551616) ^^^ P64) else UInt64.ofNat (2 * s.toNat % 18446744073709551616)) := by
  intro b
  rw [Mj, Adc, ey, en]; cases b <;> rfl
 rw [Tg, Ts, hp, hp, eg]
 rcases hb with rfl | rfl <;> rcases ht with h | h <;> rw [h] <;> simp [Cg]
theorem Ary (c : UInt8) : ∀ (j q : Nat) (s : UInt64), j ≤ 8 → j < q → Fy c q s ((2 ^ j / 2 : Nat) : Int) = some (UInt64.ofNat (Lb j (s.toNat ^^^ (c.toNat % 2 ^ j * 2 ^ (64 - j)))))
 | 0, q + 1, s, _, _ => by
  rw [Fy, Mq, if_neg (by rw [Bb]; simp), Tr, Ac0]
  simp [Lb, Nat.mod_one]
 | j + 1, q + 1, s, hj, hq => by
  have hc := c.toNat_lt
  have hs := s.toNat_lt
  have hj2 : 2 ^ j ≤ 2 ^ 7 := Nat.pow_le_pow_right (by omega) (by omega)
  have hpos : 0 < 2 ^ j := Nat.pow_pos (by omega)
  have e1 : 2 ^ (j + 1) / 2 = 2 ^ j := by rw [Nat.pow_succ]; omega
  have e2 : Cu ((2 ^ j : Nat) : Int) 2 = ((2 ^ j / 2 : Nat) : Int) := by
   generalize 2 ^ j = K at *
   rw [Adu, Int.tdiv_eq_ediv_of_nonneg (by omega), Bt (by omega) (by omega)]; omega
  have e3 : It (Cu (Ad c : Int) ((2 ^ j : Nat) : Int)) (2 : Int) = ((c.toNat / 2 ^ j % 2 : Nat) : Int) := by
   have hX := Nat.div_le_self c.toNat (2 ^ j)
   rw [Ae5, Adu, ← Int.ofNat_tdiv]
   generalize c.toNat / 2 ^ j = X at *
   rw [Bt (by omega) (by omega), It, Int.tmod_eq_emod_of_nonneg (by omega)]; omega
  have hbit : c.toNat / 2 ^ j % 2 = 0 ∨ c.toNat / 2 ^ j % 2 = 1 := by omega
  rw [Fy, Mq, e1, if_pos (by rw [Bb, decide_eq_true_eq]; omega), Cm (by rw [Am, bne_iff_ne]; omega), Aa, e3, Bqo s _ hbit, Aa, e2, Ary c j q _ (by omega) (by omega)]
  congr 2
  rw [Lb]
  congr 1
  have hx : c.toNat % 2 ^ (j + 1) * 2 ^ (64 - (j + 1)) = (c.toNat / 2 ^ j % 2) * 9223372036854775808 + c.toNat % 2 ^ j * 2 ^ (63 - j) := by
   have h63 : (9223372036854775808 : Nat) = 2 ^ j * 2 ^ (63 - j) := by rw [← Nat.pow_add, show j + (63 - j) = 63 by omega]
   rw [Nat.mod_pow_succ, h63, show 64 - (j + 1) = 63 - j by omega, Nat.add_mul, Nat.add_comm, Nat.mul_assoc, Nat.mul_left_comm]
  have hr : c.toNat % 2 ^ j < 2 ^ j := Nat.mod_lt _ hpos
  have hb63 : c.toNat % 2 ^ j * 2 ^ (63 - j) < 9223372036854775808 := by
   have h63 : (9223372036854775808 : Nat) = 2 ^ j * 2 ^ (63 - j) := by rw [← Nat.pow_add, show j + (63 - j) = 63 by omega]
   rw [h63]; exact Nat.mul_lt_mul_of_pos_right hr (Nat.pow_pos (by omega))
  have h64 : c.toNat % 2 ^ j * 2 ^ (64 - j) = 2 * (c.toNat % 2 ^ j * 2 ^ (63 - j)) := by
   rw [show 64 - j = (63 - j) + 1 by omega, Nat.pow_succ, ← Nat.mul_assoc, Nat.mul_comm]
  rw [hx, h64]
  generalize c.toNat % 2 ^ j * 2 ^ (63 - j) = R at *
  generalize c.toNat / 2 ^ j % 2 = b at *
  have ht : s.toNat / 9223372036854775808 = 0 ∨ s.toNat / 9223372036854775808 = 1 := by omega
  have hp : ((s.toNat / 9223372036854775808 ^^^ b) * P64) < 18446744073709551616 := by
   rcases ht with h | h <;> rcases hbit with h2 | h2 <;> rw [h, h2] <;> decide
  rw [Aw2 (Nat.xor_lt_two_pow (n := 64) (Nat.mod_lt _ (by decide)) hp), Ad1, Bf5, Bgu, show (b * 9223372036854775808 + R) / 9223372036854775808 = b by omega, show 2 * (b * 9223372036854775808 + R) % 18446744073709551616 = 2 * R by omega, Nat.xor_assoc, Nat.xor_assoc, Nat.xor_comm (2 * R)]
theorem Bq0 (c : UInt8) (s : UInt64) : Zw s c = some (UInt64.ofNat (Aml s.toNat c.toNat)) := by
 have h := Ary c 8 Ba s (Nat.le_refl _) (by have := Au; omega)
 have hc := c.toNat_lt
 rw [Nat.mod_eq_of_lt (show c.toNat < 2 ^ 8 by simpa using hc)] at h
 exact h
theorem Anz (b : List UInt8) (hb : b.length < 4611686018427387904) : ∀ (j i q : Nat) (s : UInt64), i + j = b.length → j < q → Ew b q s (i : Int) = some (UInt64.ofNat (Atw s.toNat (b.drop i)))
 | 0, i, q + 1, s, hi, _ => by
  rw [Ew, Ji, if_neg (by rw [Af, Ac]; simp; omega), show i = b.length by omega, List.drop_length]
  simp [Qe, Zu, Atw]
 | j + 1, i, q + 1, s, hi, hq => by
  have hlt : i < b.length := by omega
  have hc := b[i].toNat_lt
  rw [Ew, Ji, if_pos (by rw [Af, Ac]; simp; omega), Ds hlt, Aa, Bq0, Aa, Ag (by omega) (by omega)]
  have h := Anz b hb j (i + 1) q (UInt64.ofNat (Aml s.toNat b[i].toNat)) (by omega) (by omega)
  rw [show ((i : Int) + 1) = ((i + 1 : Nat) : Int) by omega, h, drop_cons hlt, Aw2 (Aqx s.toNat_lt (by simpa using hc))]
  rfl
def Afb (b : List UInt8) : UInt64 := UInt64.ofNat (Atw 0 b)
theorem Bbn (b : List UInt8) (hb : b.length ≤ 100000) : Ny 0 b = some (Afb b) :=
 Anz b (by omega) b.length 0 Ba 0 (by omega) (by have := Au; omega)
theorem Bff (c : UInt64) : Wh (Fa c (GI.toZ (1 : UInt64)).toNat) (Bj (4823603603198064275 : UInt64) (Cn c (GI.toZ (63 : UInt64)).toNat)) = UInt64.ofNat (Ad1 c.toNat) := by
 have hc := c.toNat_lt
 apply UInt64.toNat_inj.1
 have h1 : (Fa c (GI.toZ (1 : UInt64)).toNat).toNat = 2 * c.toNat % 18446744073709551616 := by
  rw [show (GI.toZ (1 : UInt64)).toNat = 1 from rfl, Aiw, Nat.mul_comm]
 have h2 : (Bj (4823603603198064275 : UInt64) (Cn c (GI.toZ (63 : UInt64)).toNat)).toNat = c.toNat / 9223372036854775808 * P64 := by
  rw [show (GI.toZ (63 : UInt64)).toNat = 63 from rfl, Ac8, UInt64.toNat_mul, Adj]
  show 4823603603198064275 * (c.toNat / 9223372036854775808) % 18446744073709551616 = _
  have h1 : c.toNat / 9223372036854775808 = 0 ∨ c.toNat / 9223372036854775808 = 1 := by omega
  rcases h1 with e | e <;> rw [e] <;> decide
 rw [Awo, UInt64.toNat_xor, h1, h2, Aw2 (Ai6 hc)]; rfl
theorem Asl (bk16 : Int → List UInt64 → Option (UInt64 × Int)) (s : UInt64) (b : List UInt8) (x : Int) (t : List UInt64) : ∀ (j i q : Nat) (c : UInt64), i + j = 8 → j < q →
  Oq bk16 s b x t q c (i : Int) = Zi bk16 s b x (UInt64.ofNat (Lb j c.toNat)) t
 | 0, i, q + 1, c, hi, _ => by
  obtain rfl : i = 8 := by omega
  rw [Oq, Aaf, if_neg (by rw [Af]; simp), Lb, UInt64.ofNat_toNat]
 | j + 1, i, q + 1, c, hi, hq => by
  rw [Oq, Aaf, if_pos (by rw [Af]; simp; omega), Bff, Ag (by omega) (by omega), show ((i : Int) + 1) = ((i + 1 : Nat) : Int) by omega, Asl bk16 s b x t j (i + 1) q _ (by omega) (by omega), Aw2 (Ai6 c.toNat_lt)]; rfl
def Agy (n : Nat) : List UInt64 := (List.range n).map fun i => UInt64.ofNat (Lb 8 (i * 72057594037927936))
theorem Awk (s : UInt64) (b : List UInt8) : ∀ (j i q : Nat), i + j = 256 → j < q → Kg s b q (i : Int) (Agy i ++ List.replicate j 0) = Zn s b (Agy 256)
 | 0, i, q + 1, hi, _ => by
  obtain rfl : i = 256 := by omega
  rw [Kg, Aae, if_neg (by rw [Af]; simp)]; simp
 | j + 1, i, q + 1, hi, hq => by
  have hlen : (Agy i ++ List.replicate (j + 1) 0).length = i + (j + 1) := by simp [Agy]
  rw [Kg, Aae, if_pos (by rw [Af]; simp; omega), Aff]
  have h := Asl (Kg s b q) s b (i : Int) (Agy i ++ List.replicate (j + 1) 0) 8 0 Ba (Fa (Ad (i : Int) : UInt64) (GI.toZ (56 : UInt64)).toNat) (by omega) (by have := Au; omega)
  rw [show ((0 : Int)) = ((0 : Nat) : Int) from rfl, h, Zi, Afp, Ds (by rw [hlen]; omega), Aa, Vz _ (by rw [hlen]; omega), Aa, Agc, Al8, Ag (by omega) (by omega)]
  have e : (Fa (Ad (i : Int) : UInt64) (GI.toZ (56 : UInt64)).toNat).toNat = i * 72057594037927936 := by
   rw [Aiw, Xt, Aw2 (by omega)]
   show i * 72057594037927936 % 18446744073709551616 = _
   omega
  rw [e, List.replicate_succ, Anl (by simp [Agy])]
  have h2 := Awk s b j (i + 1) q (by omega) (by omega)
  have h3 : Agy (i + 1) = Agy i ++ [UInt64.ofNat (Lb 8 (i * 72057594037927936))] := by simp [Agy, List.range_succ]
  rw [h3] at h2
  rw [show ((i : Int) + 1) = ((i + 1 : Nat) : Int) by omega, ← h2]
  simp
theorem Bhz {i : Nat} (h : i < 256) : getI (Agy 256) (i : Int) = some (UInt64.ofNat (Lb 8 (i * 72057594037927936))) := by
 rw [Ds (by simpa [Agy] using h)]; simp [Agy]
theorem Ban (s : UInt64) (c : UInt8) : getI (Agy 256) (GI.toZ (Wh (Ad (Cn s (GI.toZ (56 : UInt64)).toNat) : UInt8) c)) = some (UInt64.ofNat (Lb 8 (((s.toNat / 72057594037927936) ^^^ c.toNat) * 72057594037927936))) := by
 have hs := s.toNat_lt
 have e : GI.toZ (Wh (Ad (Cn s (GI.toZ (56 : UInt64)).toNat) : UInt8) c) = (((s.toNat / 72057594037927936) ^^^ c.toNat : Nat) : Int) := by
  have e2 : ((Ad (Cn s (GI.toZ (56 : UInt64)).toNat) : UInt8)).toNat = s.toNat / 72057594037927936 := by
   rw [Ajd, UInt8.toNat_ofNat', Adj]
   show s.toNat / 72057594037927936 % 256 = _
   omega
  rw [Xe, Bgd, UInt8.toNat_xor, e2]
 rw [e, Bhz]
 exact Nat.xor_lt_two_pow (n := 8) (by show _ < 256; omega) (by simpa using c.toNat_lt)
theorem Azl (s : UInt64) (c : UInt8) : Wh (Fa s (GI.toZ (8 : UInt64)).toNat) (UInt64.ofNat (Lb 8 (((s.toNat / 72057594037927936) ^^^ c.toNat) * 72057594037927936))) = UInt64.ofNat (Aml s.toNat c.toNat) := by
 have hs := s.toNat_lt
 have hc : c.toNat < 256 := by simpa using c.toNat_lt
 apply UInt64.toNat_inj.1
 have hlt : Lb 8 (((s.toNat / 72057594037927936) ^^^ c.toNat) * 72057594037927936) < 18446744073709551616 := Aqs 8 (c56 (Nat.xor_lt_two_pow (n := 8) (by show _ < 256; omega) (by simpa using c.toNat_lt)))
 have e : (GI.toZ (8 : UInt64)).toNat = 8 := rfl
 rw [e, Awo, UInt64.toNat_xor, Aiw, Aw2 hlt, Aw2 (Aqx hs hc), Aze hs hc, Nat.mul_comm s.toNat]
theorem Ar8 (b : List UInt8) (s0 : UInt64) (hb : b.length < 4611686018427387904) : ∀ (j i q : Nat) (s : UInt64), i + j = b.length → j < q → Oe b s0 (Agy 256) q s (i : Int) = some (UInt64.ofNat (Atw s.toNat (b.drop i)), 0)
 | 0, i, q + 1, s, hi, _ => by
  rw [Oe, Zy, if_neg (by rw [Af, Ac]; simp; omega), show i = b.length by omega, List.drop_length]
  simp [Afi, Ago, Agp, Ami, Atw]
 | j + 1, i, q + 1, s, hi, hq => by
  have hlt : i < b.length := by omega
  have hc := b[i].toNat_lt
  rw [Oe, Zy, if_pos (by rw [Af, Ac]; simp; omega), Ds hlt, Aa, Ban, Aa, Aa, Azl, Ag (by omega) (by omega)]
  have h := Ar8 b s0 hb j (i + 1) q (UInt64.ofNat (Aml s.toNat b[i].toNat)) (by omega) (by omega)
  rw [show ((i : Int) + 1) = ((i + 1 : Nat) : Int) by omega, h, drop_cons hlt, Aw2 (Aqx s.toNat_lt (by simpa using hc))]
  rfl
theorem Bbh (b : List UInt8) (hb : b.length ≤ 100000) : Aim b = some (Afb b, 0) := by
 have h := Awk 0 b 256 0 Ba (by omega) (by have := Au; omega)
 have h2 := Ar8 b 0 (by omega) b.length 0 Ba 0 (by omega) (by have := Au; omega)
 have hn : Akm 0 b = some (Afb b, 0) := by
  rw [Akm, Ah1, if_neg (by rw [Bb, Ac]; simp; omega), Agb]
  refine Eq.trans h ?_
  rw [Zn, Afa, Af2]
  exact h2
 rw [Aim, hn, Aa]
theorem Bhr (p : List UInt8) (hp : p.length ≤ 64) : Aeu p = some (leB (Afb p).toNat 8, 0) := by
 rw [Aeu, Arf, if_neg (by rw [Bb, Ac]; simp; omega), Bbh p (by omega), Aa, Aa]
 simp only
 have h := Bck (Afb p) 8 (by omega) (by omega) (by simpa using (Afb p).toNat_lt)
 rw [if_neg (by rw [Am]; simp)]
 exact congrArg (fun o => Option.bind o fun x : List UInt8 × Int => some (x.1, x.2)) h
theorem Bit (p : List UInt8) (hp : p.length ≤ 64) : Lo p = some (leB (Afb p).toNat 8) := by
 have h := Auz (Afb p) 8 (by omega)
 rw [Lo, Aah, Bbn p (by omega), Aa, Aa]
 exact congrArg (fun o => Option.bind o fun l => some l) h
def s8 (n : Nat) : Int32 := Int32.ofInt (if n < 128 then (n : Int) else (n : Int) - 256)
def Ahc (d : UInt64) (n : Nat) : List Int32 := (List.range n).map fun i => s8 (d.toNat / 256 ^ i % 256)
theorem Ai4 (d : UInt64) (n : Nat) : (Ahc d n).length = n := by simp [Ahc]
theorem At3 (d : UInt64) (n : Nat) : Ahc d (n + 1) = Ahc d n ++ [s8 (d.toNat / 256 ^ n % 256)] := by simp [Ahc, List.range_succ]
theorem bm8 (z : Nat) : (z : Int).bmod Int8.size = if z % 256 < 128 then ((z % 256 : Nat) : Int) else ((z % 256 : Nat) : Int) - 256 := by
 rw [show Int8.size = 256 from rfl, Int.bmod_def]
 split <;> split <;> omega
theorem Bf0 (d : UInt64) : ∀ (j i q : Nat), i + j = 8 → j < q → Abg d q (i : Int) (Ahc d i ++ List.replicate (16 - i) 0) = some (Ahc d 8 ++ List.replicate 8 0)
 | 0, i, q + 1, hi, _ => by
  obtain rfl : i = 8 := by omega
  rw [Abg, Ajo, if_neg (by rw [Af]; simp)]; rfl
 | j + 1, i, q + 1, hi, hq => by
  have hlen : (Ahc d i ++ List.replicate (16 - i) 0).length = 16 := by simp [Ai4]; omega
  have ih := Bf0 d j (i + 1) q (by omega) (by omega)
  have e8 : Bj (8 : Int) (i : Int) = ((8 * i : Nat) : Int) := by rw [Gz (by omega) (by omega)]; omega
  have ev : (Ad (Ad (Cn d (GI.toZ (((8 * i : Nat) : Int))).toNat) : Int8) : Int32) = s8 (d.toNat / 256 ^ i % 256) := by
   have e1 : (Cn d (GI.toZ (((8 * i : Nat) : Int))).toNat).toNat = d.toNat / 256 ^ i := by
    rw [show (GI.toZ (((8 * i : Nat) : Int))).toNat = 8 * i from rfl, Adj, Nat.pow_mul]
   show Int32.ofInt (Int8.ofInt ((Cn d (GI.toZ (((8 * i : Nat) : Int))).toNat).toNat : Int)).toInt = _
   rw [e1, s8, Int8.toInt_ofInt, bm8]
  rw [Abg, Ajo, if_pos (by rw [Af]; simp; omega), e8, Cm (by rw [Cz]; simp; omega), Aa, ev, Ds (by omega), Aa, Vz _ (by omega), Aa, Ag (by omega) (by omega), show 16 - i = (15 - i) + 1 by omega, List.replicate_succ, Anl (Ai4 d i)]
  rw [At3, show 16 - (i + 1) = 15 - i by omega, List.append_assoc] at ih
  exact ih
theorem Bll (d : UInt64) : ∀ (j i q : Nat) (e : UInt64), i + j = 8 → j < q → e.toNat = d.toNat / 256 ^ i → Ft q e (i : Int) (Ahc d i ++ List.replicate (16 - i) 0) = some (Ahc d 8 ++ List.replicate 8 0)
 | 0, i, q + 1, e, hi, _, he => by
  obtain rfl : i = 8 := by omega
  rw [Ft, Qs, if_neg (by rw [Af]; simp)]; rfl
 | j + 1, i, q + 1, e, hi, hq, he => by
  have hlen : (Ahc d i ++ List.replicate (16 - i) 0).length = 16 := by simp [Ai4]; omega
  have hq2 : (Cu e (256 : UInt64)).toNat = d.toNat / 256 ^ (i + 1) := by
   rw [Ap6, UInt64.toNat_div, he, Nat.pow_succ, ← Nat.div_div_eq_div_mul]; rfl
  have ih := Bll d j (i + 1) q (Cu e (256 : UInt64)) (by omega) (by omega) hq2
  have ev : (Ad (Yq e (256 : UInt64)) : Int32) = Int32.ofInt ((d.toNat / 256 ^ i % 256 : Nat) : Int) := by
   show Int32.ofInt ((Yq e (256 : UInt64)).toNat : Int) = _
   rw [Bcj, UInt64.toNat_mod, he]; rfl
  have hz : d.toNat / 256 ^ i % 256 < 256 := Nat.mod_lt _ (by omega)
  have et : (Int32.ofInt ((d.toNat / 256 ^ i % 256 : Nat) : Int)).toInt = ((d.toNat / 256 ^ i % 256 : Nat) : Int) := by
   rw [Int32.toInt_ofInt, Int.bmod_eq_of_le (by show -(4294967296 / 2 : Int) ≤ _; omega) (by show _ < (4294967296 + 1) / 2; omega)]
  have hp8 : ∀ x : Int32, x = s8 (d.toNat / 256 ^ i % 256) → Qu (Ft q) e (i : Int) (Ahc d i ++ List.replicate (16 - i) 0) x = some (Ahc d 8 ++ List.replicate 8 0) := by
   intro x hx
   rw [Qu, Agi, hx, Ds (by omega), Aa, Vz _ (by omega), Aa, Ag (by omega) (by omega), show 16 - i = (15 - i) + 1 by omega, List.replicate_succ, Anl (Ai4 d i)]
   rw [At3, show 16 - (i + 1) = 15 - i by omega, List.append_assoc] at ih
   exact ih
  rw [Ft, Qs, if_pos (by rw [Af]; simp; omega), ev, Bea, et, show (127 : Int32).toInt = 127 from rfl]
  by_cases h : d.toNat / 256 ^ i % 256 < 128
  ·rw [if_neg (by simp only [decide_eq_true_eq]; omega)]
   exact hp8 _ (by rw [s8, if_pos h])
  ·rw [if_pos (by simp only [decide_eq_true_eq]; omega)]
   refine hp8 _ ?_
   rw [s8, if_neg h, At2, Int32.ofInt_sub]; rfl
def tapsOf (p : List UInt8) : List Int32 := Ahc (Afb p) 8 ++ List.replicate 8 0
theorem Bd7 (p : List UInt8) : (tapsOf p).length = 16 := by simp [tapsOf, Ai4]
theorem Bi7 (p : List UInt8) (hp : p.length ≤ 64) : Ani p = some (tapsOf p, 0) := by
 have h := Bf0 (Afb p) 8 0 Ba (by omega) (by have := Au; omega)
 have h2 : Ayy (Afb p) = some (tapsOf p) := h
 rw [Ani, if_neg (by rw [Bb, Ac]; simp; omega), Bbh p (by omega), Aa]
 simp only
 rw [if_neg (by rw [Am]; simp), h2, Aa]
theorem Bk5 (p : List UInt8) (hp : p.length ≤ 64) : Mb p = some (tapsOf p, 0) := by
 have h := Bll (Afb p) 8 0 Ba (Afb p) (by omega) (by have := Au; omega) (by simp)
 have h2 : Adp (Afb p) = some (tapsOf p) := h
 rw [Mb, if_neg (by rw [Bb, Ac]; simp; omega), Abw, Zp, if_neg (by rw [Bb, Ac]; simp; omega), Bbn p (by omega), Aa, Aa, Aa]
 simp only
 rw [h2, Aa]
end Go.Pl
set_option linter.unusedVariables false
set_option linter.unusedSimpArgs false
namespace Go.Pl
open Go Go.Lv
def u8 (z : Int) : UInt8 := UInt8.ofNat (z % 256).toNat
theorem Azq (z : Int) : u8 (z % 256) = u8 z := by rw [u8, u8]; congr 2; omega
def wB (bits : Int) : Nat := if bits = 8 then 1 else if bits = 16 then 2 else 3
theorem Bmi {bits : Int} (h : Du bits) : Cu bits 8 = (wB bits : Int) := by obtain rfl | rfl | rfl := h <;> rfl
theorem Bjv (bits : Int) : 1 ≤ wB bits ∧ wB bits ≤ 3 := by
 unfold wB; split; · omega
 ·split <;> omega
def Anv (bits : Int) (x : Int) : List UInt8 := if bits = 8 then [u8 (x + 128)] else if bits = 16 then [u8 x, u8 (x / 256)] else [u8 x, u8 (x / 256), u8 (x / 65536)]
theorem Bdm (bits x : Int) : (Anv bits x).length ≤ 3 := by
 unfold Anv; split; · simp
 ·split <;> simp
theorem Bjs (x : Int32) (k : Nat) (hk : k ≤ 32) : (Ad (Cn x k) : UInt8) = u8 (x.toInt.fdiv (2 ^ k)) := by
 have h := Aac x
 have e : Cn x k = Int32.ofInt (x.toInt.fdiv (2 ^ k)) := by
  show Int32.ofInt (x.toInt.fdiv (2 ^ min k 32)) = _
  rw [Nat.min_eq_left hk]
 have hb : -2147483648 ≤ x.toInt.fdiv (2 ^ k) ∧ x.toInt.fdiv (2 ^ k) < 2147483648 := by
  have hpos : (0 : Int) < 2 ^ k := Int.pow_pos (by omega)
  rw [Int.fdiv_eq_ediv_of_nonneg _ (by omega)]
  constructor
  ·refine (Int.le_ediv_iff_mul_le hpos).2 ?_
   have : (1 : Int) ≤ 2 ^ k := by omega
   have h2 : -2147483648 * (2 ^ k : Int) ≤ -2147483648 * 1 := Int.mul_le_mul_of_nonpos_left (by omega) this
   omega
  ·refine Int.ediv_lt_of_lt_mul hpos ?_
   have : (1 : Int) ≤ 2 ^ k := by omega
   have h2 : (2147483648 : Int) * 1 ≤ 2147483648 * 2 ^ k := Int.mul_le_mul_of_nonneg_left this (by omega)
   omega
 show UInt8.ofNat ((Cn x k).toInt % 256).toNat = _
 rw [e, Int32.toInt_ofInt, Int.bmod_eq_of_le (by show -(4294967296 / 2 : Int) ≤ _; omega) (by show _ < (4294967296 + 1) / 2; omega)]; rfl
section
variable (bk : Int → List UInt8 → Option (List UInt8 × Int)) (l : List Int32)
theorem As2 {bits : Int} (h : Du bits) (c : Int32) (x : Int) (i q : Nat) (acc : List UInt8) (hi : i < wB bits) (ha : acc.length ≤ 100000) :
  Gx bk bits l c x (q + 1) (i : Int) acc = Gx bk bits l c x q ((i + 1 : Nat) : Int) (acc ++ [u8 (c.toInt.fdiv (2 ^ (8 * i)))]) := by
 have hw := Bjv bits
 have e8 : Bj (8 : Int) (i : Int) = ((8 * i : Nat) : Int) := by rw [Gz (by omega) (by omega)]; omega
 rw [Gx, Wx, Bmi h, if_pos (by rw [Af]; simp; omega), e8, Cm (by rw [Cz]; simp; omega), Aa, show (GI.toZ (((8 * i : Nat) : Int))).toNat = 8 * i from rfl, Bjs _ _ (by omega), Gc (by simp; omega), Aa, Ag (by omega) (by omega)]; rfl
theorem Bdz {bits : Int} (h : Du bits) (c : Int32) (x : Int) (q : Nat) (acc : List UInt8) : Gx bk bits l c x (q + 1) ((wB bits : Nat) : Int) acc = bk (Ae x 1) acc := by
 rw [Gx, Wx, Bmi h, if_neg (by rw [Af]; simp), Adw, Ala]
theorem Bq4 {bits : Int} (h : Du bits) (c : Int32) (x : Int) (acc : List UInt8) (ha : acc.length ≤ 90000) (hr : -(hB bits) ≤ c.toInt ∧ c.toInt < hB bits) :
  Iy bk bits l x acc (if bits = 8 then Ae c (128 : Int32) else c) = bk (Ae x 1) (acc ++ Anv bits c.toInt) := by
 have e : Ba = (Ba - 4) + 1 + 1 + 1 + 1 := by have := Au; omega
 have hc := Aac c
 rw [Iy, Ad7, Aea, e]
 have g0 := fun (c : Int32) q acc ha => As2 bk l h c x 0 q acc (by have := Bjv bits; omega) ha
 obtain rfl | rfl | rfl := h
 ·have hh : hB 8 = 128 := rfl
  rw [hh] at hr
  have e1 : (Ae c (128 : Int32)).toInt = c.toInt + 128 := by
   show (Int32.ofInt (c.toInt + (128 : Int32).toInt)).toInt = _
   rw [show (128 : Int32).toInt = 128 from rfl, Int32.toInt_ofInt, Int.bmod_eq_of_le (by show -(4294967296 / 2 : Int) ≤ _; omega) (by show _ < (4294967296 + 1) / 2; omega)]
  have g1 := Bdz bk l (bits := 8) (.inl rfl) (Ae c (128 : Int32)) x (Ba - 4 + 1 + 1)
  rw [if_pos rfl, show (0 : Int) = ((0 : Nat) : Int) from rfl, g0 _ _ _ (by omega)]
  refine Eq.trans (g1 _) ?_
  rw [e1, Anv, if_pos rfl]
  show bk _ (acc ++ [u8 ((c.toInt + 128).fdiv 1)]) = _
  rw [Int.fdiv_one]
 ·have g1 := fun q acc ha => As2 bk l (bits := 16) (.inr (.inl rfl)) c x 1 q acc (by decide) ha
  have g2 := Bdz bk l (bits := 16) (.inr (.inl rfl)) c x (Ba - 4 + 1)
  rw [if_neg (by decide), show (0 : Int) = ((0 : Nat) : Int) from rfl, g0 _ _ _ (by omega), g1 _ _ (by simp; omega)]
  refine Eq.trans (g2 _) ?_
  rw [Anv, if_neg (by decide), if_pos rfl, List.append_assoc]
  show bk _ (acc ++ [u8 (c.toInt.fdiv 1), u8 (c.toInt.fdiv 256)]) = _
  rw [Int.fdiv_one, Int.fdiv_eq_ediv_of_nonneg _ (by omega)]
 ·have g1 := fun q acc ha => As2 bk l (bits := 24) (.inr (.inr rfl)) c x 1 q acc (by decide) ha
  have g2 := fun q acc ha => As2 bk l (bits := 24) (.inr (.inr rfl)) c x 2 q acc (by decide) ha
  have g3 := Bdz bk l (bits := 24) (.inr (.inr rfl)) c x (Ba - 4)
  rw [if_neg (by decide), show (0 : Int) = ((0 : Nat) : Int) from rfl, g0 _ _ _ (by omega), g1 _ _ (by simp; omega), g2 _ _ (by simp; omega)]
  refine Eq.trans (g3 _) ?_
  rw [Anv, if_neg (by decide), if_neg (by decide), List.append_assoc, List.append_assoc]
  show bk _ (acc ++ [u8 (c.toInt.fdiv 1), u8 (c.toInt.fdiv 256), u8 (c.toInt.fdiv 65536)]) = _
  rw [Int.fdiv_one, Int.fdiv_eq_ediv_of_nonneg _ (by omega), Int.fdiv_eq_ediv_of_nonneg _ (by omega)]
end
def bytesB (bits : Int) (l : List Int32) : List UInt8 := l.flatMap fun x => Anv bits x.toInt
theorem Aj8 (bits : Int) : ∀ l : List Int32, (bytesB bits l).length ≤ 3 * l.length
 | [] => by simp [bytesB]
 | x :: l => by
  have h1 := Aj8 bits l
  have h2 := Bdm bits x.toInt
  simp only [bytesB, List.flatMap_cons, List.length_append, List.length_cons] at *
  omega
def inR (bits : Int) (l : List Int32) : Prop := ∀ x ∈ l, -(hB bits) ≤ x.toInt ∧ x.toInt < hB bits
theorem Bf6 {bits : Int} (h : Du bits) (l : List Int32) (hl : l.length ≤ 4000) (hr : inR bits l) : ∀ (j i q : Nat), i + j = l.length → j < q → Er bits l q (i : Int) (bytesB bits (l.take i)) = some (bytesB bits l, 0)
 | 0, i, q + 1, hi, _ => by
  rw [Er, Ws, if_neg (by rw [Af, Ac]; simp; omega), List.take_of_length_le (by omega)]; rfl
 | j + 1, i, q + 1, hi, hq => by
  have hlt : i < l.length := by omega
  have ih := Bf6 h l hl hr j (i + 1) q (by omega) (by omega)
  have hlen := Aj8 bits (l.take i)
  have hx := hr l[i] (List.getElem_mem _)
  have h1 := Bq4 (Er bits l q) l h l[i] (i : Int) (bytesB bits (l.take i)) (by rw [List.length_take] at hlen; omega) hx
  rw [Er, Ws, if_pos (by rw [Af, Ac]; simp; omega), Ds hlt, Aa]
  have e : (if (geq bits (8 : Int)) = true then Iy (Er bits l q) bits l (i : Int) (bytesB bits (l.take i)) (Ae l[i] (128 : Int32)) else Iy (Er bits l q) bits l (i : Int) (bytesB bits (l.take i)) l[i]) = Iy (Er bits l q) bits l (i : Int) (bytesB bits (l.take i)) (if bits = 8 then Ae l[i] (128 : Int32) else l[i]) := by
   by_cases h8 : bits = 8
   ·rw [if_pos (by rw [Cg]; simpa using h8), if_pos h8]
   ·rw [if_neg (by rw [Cg]; simpa using h8), if_neg h8]
  rw [e, h1, Ag (by omega) (by omega)]
  rw [Aid hlt] at ih
  have e2 : bytesB bits (l.take i ++ [l[i]]) = bytesB bits (l.take i) ++ Anv bits l[i].toInt := by unfold bytesB; rw [List.flatMap_append, List.flatMap_singleton]
  rw [e2] at ih
  exact ih
theorem Axo {bits : Int} (h : Du bits) {l : List Int32} (hl : l.length ≤ 4000) (hc : cadenzaref18_Check bits l = some 0) : inR bits l := by
 have hh := Awm bits
 have key : ∀ (j i q : Nat), i + j = l.length → j < q → Bm l (hB bits) q (i : Int) = some 0 → ∀ k, i ≤ k → (hk : k < l.length) → -(hB bits) ≤ l[k].toInt ∧ l[k].toInt < hB bits := by
  intro j
  induction j with
  | zero => intro i q hi hq _ k h1 h2; omega
  | succ j ih =>
   intro i q hi hq hs k h1 h2
   obtain ⟨q, rfl⟩ : ∃ k, q = k + 1 := ⟨q - 1, by omega⟩
   rw [Bm, Dz, if_pos (by rw [Af, Ac]; simp; omega), Ds (by omega), Aa, Aa, Ek, Bfa, Bt (by omega) (by omega), Ag (by omega) (by omega), Af, Cz] at hs
   by_cases g1 : l[i].toInt < 0 - hB bits
   ·rw [if_pos (by simpa using g1)] at hs; simp at hs
   ·rw [if_neg (by simpa using g1)] at hs
    by_cases g2 : hB bits ≤ l[i].toInt
    ·rw [if_pos (by simpa using g2)] at hs; simp at hs
    ·rw [if_neg (by simpa using g2)] at hs
     by_cases hk : k = i
     ·subst hk; omega
     ·exact ih (i + 1) q (by omega) (by omega) hs k (by omega) h2
 rw [cadenzaref18_Check, Hj, Axa h, Aa, if_neg (by rw [Cg]; simp; omega), if_neg (by rw [Bb, Ac]; simp; omega)] at hc
 have := key l.length 0 Ba (by omega) (by have := Au; omega) hc
 intro x hx
 obtain ⟨k, hk, rfl⟩ := List.getElem_of_mem hx
 exact this k (by omega) hk
theorem Bdt {bits : Int} (h : Du bits) {l : List Int32} (hl : l.length ≤ 4000) (hc : cadenzaref18_Check bits l = some 0) : width_Bytes bits l = some (bytesB bits l, 0) := by
 have h1 := Bf6 h l hl (Axo h hl hc) l.length 0 Ba (by omega) (by have := Au; omega)
 rw [width_Bytes, Af7, Atl h l hl, hc, Aa, if_neg (by rw [Am]; simp)]
 exact h1
theorem Bo5 {bits : Int} (h : Du bits) (x : Int32) (hr : -(hB bits) ≤ x.toInt ∧ x.toInt < hB bits) : Vd bits x = some (Anv bits x.toInt) := by
 have hx := Aac x
 have gu : ∀ z : Int, (Ad z : UInt8) = u8 z := fun z => rfl
 have hq : ∀ n : Int, 0 ≤ n → n ≤ 20000000 → Cu n (256 : Int) = n / 256 ∧ Cu n (65536 : Int) = n / 65536 := by
  intro n h1 h2
  constructor <;> (rw [Adu, Int.tdiv_eq_ediv_of_nonneg h1, Bt (by omega) (by omega)])
 have hm : ∀ n : Int, 0 ≤ n → It n (256 : Int) = n % 256 := fun n h1 => by rw [It, Int.tmod_eq_emod_of_nonneg h1]
 rw [Vd, Wa, Ek]
 obtain rfl | rfl | rfl := h
 ·rw [if_pos (by rw [Cg]; rfl), Ag (by omega) (by omega), gu, Anv, if_pos rfl]
 ·have hh : hB 16 = 32768 := rfl
  rw [hh] at hr
  have hp : ∀ n : Int, 0 ≤ n → n ≤ 70000 → u8 n = u8 x.toInt → u8 (n / 256) = u8 (x.toInt / 256) → Gt 16 n = some (Anv 16 x.toInt) := by
   intro n h1 h2 h3 h4
   rw [Gt, Wb, if_neg (by rw [Cg]; decide), hm n h1, (hq n h1 (by omega)).1, hm _ (by omega), gu, gu, Azq, Azq, h3, h4, Anv, if_neg (by decide), if_pos rfl]
  rw [if_neg (by rw [Cg]; decide)]
  by_cases hn : x.toInt < 0
  ·rw [if_pos (by rw [Af]; simpa using hn), Axa (.inr (.inl rfl)), Aa, hh, Gz (by omega) (by omega), Ag (by omega) (by omega)]
   refine hp _ (by omega) (by omega) ?_ ?_
   ·rw [u8, u8]; congr 2; omega
   ·rw [u8, u8]; congr 2; omega
  ·rw [if_neg (by rw [Af]; simpa using hn)]
   exact hp _ (by omega) (by omega) rfl rfl
 ·have hh : hB 24 = 8388608 := rfl
  rw [hh] at hr
  have hp : ∀ n : Int, 0 ≤ n → n ≤ 16777215 → u8 n = u8 x.toInt → u8 (n / 256) = u8 (x.toInt / 256) → u8 (n / 65536) = u8 (x.toInt / 65536) → Gt 24 n = some (Anv 24 x.toInt) := by
   intro n h1 h2 h3 h4 h5
   rw [Gt, Wb, if_pos (by rw [Cg]; rfl), hm n h1, (hq n h1 (by omega)).1, (hq n h1 (by omega)).2, hm _ (by omega), gu, gu, gu, Azq, Azq, h3, h4, h5, Gc (by simp), Aa, Anv, if_neg (by decide), if_neg (by decide)]; rfl
  rw [if_neg (by rw [Cg]; decide)]
  by_cases hn : x.toInt < 0
  ·rw [if_pos (by rw [Af]; simpa using hn), Axa (.inr (.inr rfl)), Aa, hh, Gz (by omega) (by omega), Ag (by omega) (by omega)]
   refine hp _ (by omega) (by omega) ?_ ?_ ?_
   ·rw [u8, u8]; congr 2; omega
   ·rw [u8, u8]; congr 2; omega
   ·rw [u8, u8]; congr 2; omega
  ·rw [if_neg (by rw [Af]; simpa using hn)]
   exact hp _ (by omega) (by omega) rfl rfl rfl
theorem Bfi {bits : Int} (h : Du bits) (l : List Int32) (hl : l.length ≤ 4000) (hr : inR bits l) : ∀ (j i q : Nat), i + j = l.length → j < q → Fb bits l q (i : Int) (bytesB bits (l.take i)) = some (bytesB bits l, 0)
 | 0, i, q + 1, hi, _ => by
  rw [Fb, Kl, if_neg (by rw [Af, Ac]; simp; omega), List.take_of_length_le (by omega)]; rfl
 | j + 1, i, q + 1, hi, hq => by
  have hlt : i < l.length := by omega
  have ih := Bfi h l hl hr j (i + 1) q (by omega) (by omega)
  have hlen := Aj8 bits (l.take i)
  have hol := Bdm bits l[i].toInt
  rw [List.length_take] at hlen
  have e2 : bytesB bits (l.take i ++ [l[i]]) = bytesB bits (l.take i) ++ Anv bits l[i].toInt := by unfold bytesB; rw [List.flatMap_append, List.flatMap_singleton]
  rw [Aid hlt, e2] at ih
  rw [Fb, Kl, if_pos (by rw [Af, Ac]; simp; omega), Ds hlt, Aa, Bo5 h _ (hr l[i] (List.getElem_mem _)), Aa, Gc (by omega), Aa, Ag (by omega) (by omega)]
  exact ih
theorem Bi2 {bits : Int} (h : Du bits) {l : List Int32} (hl : l.length ≤ 4000) (hc : cadenzaref18_Check bits l = some 0) : Qj bits l = some (bytesB bits l, 0) := by
 have h1 := Bfi h l hl (Axo h hl hc) l.length 0 Ba (by omega) (by have := Au; omega)
 rw [Qj, Ru, hc, Aa, if_neg (by rw [Am]; simp)]
 exact h1
end Go.Pl
set_option linter.unusedVariables false
set_option linter.unusedSimpArgs false
namespace Go.Pl
open Go Go.Lv
def Ajc : List UInt8 → Nat → Int × Int
 | [], n => ((n : Int), 0)
 | c :: r, n => if 128 ≤ c.toNat then (0, 12) else Ajc r (128 * n + c.toNat)
theorem Bfq : ∀ (l : List UInt8) (n k : Nat), n < 128 ^ k → 0 ≤ (Ajc l n).1 ∧ (Ajc l n).1 < ((128 ^ (k + l.length) : Nat) : Int)
 | [], n, k, h => by simp [Ajc]; exact_mod_cast h
 | c :: r, n, k, h => by
  rw [Ajc]
  split
  ·have : 0 < 128 ^ (k + (c :: r).length) := Nat.pow_pos (by omega)
   exact ⟨Int.le_refl _, by simp only; exact_mod_cast this⟩
  ·have := Bfq r (128 * n + c.toNat) (k + 1) (by rw [Nat.pow_succ]; omega)
   rw [List.length_cons, show k + (r.length + 1) = k + 1 + r.length by omega]
   exact this
theorem or7 (n c : Nat) (hn : n < 268435456) (hc : c < 128) : gor (Fa (n : Int) (GI.toZ (7 : UInt64)).toNat) (c : Int) = ((128 * n + c : Nat) : Int) := by
 have e : (GI.toZ (7 : UInt64)).toNat = 7 := rfl
 have h1 : Fa (n : Int) 7 = ((2 ^ 7 * n : Nat) : Int) := by
  have : Fa (n : Int) 7 = wrap64 ((n : Int) * 2 ^ 7) := rfl
  rw [this, Bt (by omega) (by omega)]; omega
 rw [e, h1]
 have h2 : gor ((2 ^ 7 * n : Nat) : Int) (c : Int) = wrap64 ((BitVec.ofInt 64 ((2 ^ 7 * n : Nat) : Int) ||| BitVec.ofInt 64 (c : Int)).toNat : Int) := rfl
 rw [h2, BitVec.toNat_or, BitVec.toNat_ofInt, BitVec.toNat_ofInt]
 have h3 : (((2 ^ 7 * n : Nat) : Int) % ((2 ^ 64 : Nat) : Int)).toNat = 2 ^ 7 * n := by omega
 have h4 : ((c : Int) % ((2 ^ 64 : Nat) : Int)).toNat = c := by omega
 rw [h3, h4, ← Nat.two_pow_add_eq_or_of_lt (by simpa using hc), Bt (by omega) (by omega)]
theorem Bg7 (b : List UInt8) (hb : b.length = 4) : ∀ (j i q n : Nat), i + j = 4 → j < q → n < 128 ^ i → Jt b q (n : Int) (i : Int) = some (Ajc (b.drop i) n)
 | 0, i, q + 1, n, hi, _, _ => by
  rw [Jt, Vk, if_neg (by rw [Af, Ac]; simp; omega), show b.drop i = [] by simp; omega]; rfl
 | j + 1, i, q + 1, n, hi, hq, hn => by
  have hlt : i < b.length := by omega
  have hn2 : n < 268435456 := Nat.lt_of_lt_of_le hn (show 128 ^ i ≤ 128 ^ 4 from Nat.pow_le_pow_right (by omega) (by omega))
  rw [Jt, Vk, if_pos (by rw [Af, Ac]; simp; omega), Ds hlt, Aa, drop_cons hlt, Ajc, Blv]
  by_cases hc : 128 ≤ b[i].toNat
  ·rw [if_pos (by simp; omega), if_pos hc]
  ·rw [if_neg (by simp; omega), if_neg hc, Ae5, or7 n _ hn2 (by omega), Ag (by omega) (by omega)]
   exact Bg7 b hb j (i + 1) q _ (by omega) (by omega) (by rw [Nat.pow_succ]; omega)
theorem Bkw (b : List UInt8) (hb : b.length = 4) : ∀ (j i q n : Nat), i + j = 4 → j < q → n < 128 ^ i → Fk b q (n : Int) (i : Int) = some (Ajc (b.drop i) n)
 | 0, i, q + 1, n, hi, _, _ => by
  rw [Fk, Kk, if_neg (by rw [Af]; simp; omega), show b.drop i = [] by simp; omega]; rfl
 | j + 1, i, q + 1, n, hi, hq, hn => by
  have hlt : i < b.length := by omega
  have hn2 : n < 268435456 := Nat.lt_of_lt_of_le hn (show 128 ^ i ≤ 128 ^ 4 from Nat.pow_le_pow_right (by omega) (by omega))
  rw [Fk, Kk, if_pos (by rw [Af]; simp; omega), Ds hlt, Aa, drop_cons hlt, Ajc, Bk4]
  have h128 : (128 : UInt8).toNat = 128 := rfl
  by_cases hc : 128 ≤ b[i].toNat
  ·rw [if_pos (by simpa using hc), if_pos hc]
  ·have h3 := b[i].toNat_lt
   rw [if_neg (by simpa using hc), if_neg hc, Aa, Ae5, Gz (by omega) (by omega), Ag (by omega) (by omega), Ag (by omega) (by omega)]
   have := Bkw b hb j (i + 1) q (128 * n + b[i].toNat) (by omega) (by omega) (by rw [Nat.pow_succ]; omega)
   rw [← this]; rfl
theorem Bem (b : List UInt8) (hb : b.length = 4) : Ab6 b = some (Ajc b 0) := by
 have h := Bg7 b hb 4 0 Ba 0 (by omega) (by have := Au; omega) (by simp)
 rw [Ab6, Abp, if_neg (by rw [Am, Ac]; simp; omega), Abe]; exact h
theorem Bh1 (b : List UInt8) (hb : b.length = 4) : Qc b = some (Ajc b 0) := by
 have h := Bkw b hb 4 0 Ba 0 (by omega) (by have := Au; omega) (by simp)
 rw [Qc, Sa, if_neg (by rw [Am, Ac]; simp; omega), Sd]; exact h
theorem Bet {b : List UInt8} (hb : b.length = 4) : 0 ≤ (Ajc b 0).1 ∧ (Ajc b 0).1 < 268435456 := by
 have := Bfq b 0 0 (by simp)
 rw [hb] at this
 simpa using this
theorem Ajq (s p : List UInt8) : Iu s p = some (decide (p.length ≤ s.length ∧ s.take p.length = p)) := by
 rw [Iu]
 by_cases h : p.length ≤ s.length
 ·rw [if_pos (by rw [Cz, Ac, Ac]; simp; omega), show Ac p = (p.length : Int) from rfl, Jm (by omega) (by omega), Aa, Gw, Aa, Int.toNat_natCast]
  congr 1
  rw [Bool.eq_iff_iff]; simp [h]
 ·rw [if_neg (by rw [Cz, Ac, Ac]; simp; omega)]
  simp [h]
def An1 (b : List UInt8) (n : Int) : Int × Int :=
 if 4000 < n then (0, 4) else if (b.length : Int) < n then (0, 24) else
 if b.getD 5 0 = 16 ∧ (b.take n.toNat).drop (n - 10).toNat ≠ [51, 68, 73] ++ part b 3 7 then (0, 12) else (n, 0)
def Ayd (b : List UInt8) (r : Int) : Int × Int := An1 b (r + 10 + (if b.getD 5 0 = 16 then 10 else 0))
def Ak8 (b : List UInt8) : Int × Int :=
 if ¬ (3 ≤ b.length ∧ b.take 3 = [73, 68, 51]) then (0, 6) else if b.length < 10 then (0, 24) else
 if (Ajc (part b 6 4) 0).2 ≠ 0 ∨ b.getD 4 0 ≠ 0 ∨ ¬ ((b.getD 5 0 = 0 ∧ 2 ≤ (b.getD 3 0).toNat ∧ (b.getD 3 0).toNat ≤ 4) ∨ (b.getD 5 0 = 16 ∧ b.getD 3 0 = 4)) then (0, 12) else
 Ayd b (Ajc (part b 6 4) 0).1
theorem Aor {b : List UInt8} {i : Nat} (h : i < b.length) : getI b (i : Int) = some (b.getD i 0) := by
 rw [Ds h]; simp [List.getD_eq_getElem?_getD, h]
theorem Mi {b : List UInt8} (a w : Nat) (h : a + w ≤ b.length) : Ca b (a : Int) ((a + w : Nat) : Int) = some (part b a w) := by
 rw [Xc (by omega) (by omega) (by omega)]; rfl
theorem Bn1 (b : List UInt8) (r : Int) (h10 : 10 ≤ b.length) (h0 : 0 ≤ r) (h1 : r < 268435456) : Ml b r = some (Ayd b r) := by
 have g5 : getI b (5 : Int) = some (b.getD 5 0) := Aor (i := 5) (by omega)
 have key : ∀ n : Int, 10 ≤ n → n < 268435500 → Lq b n = some (An1 b n) := by
  intro n hn hn2
  rw [Lq, Ac2, An1]
  by_cases c1 : 4000 < n
  ·rw [if_pos (by rw [Bb]; simpa using c1), if_pos c1]
  ·rw [if_neg (by rw [Bb]; simpa using c1), if_neg c1]
   by_cases c2 : (b.length : Int) < n
   ·rw [if_pos (by rw [Af, Ac]; simpa using c2), if_pos c2]
   ·have e3 : Ca b (3 : Int) (10 : Int) = some (part b 3 7) := Mi 3 7 (by omega)
    rw [if_neg (by rw [Af, Ac]; simpa using c2), if_neg c2, g5, Aa]
    by_cases c3 : b.getD 5 0 = 16
    ·rw [if_pos (by rw [Ajf]; simpa using c3), Bg (by omega) (by omega), Xc (by omega) (by omega) (by omega), Aa, e3, Aa, Gc (by rw [Dc (by omega)]; simp), Aa]
     by_cases c4 : (b.take n.toNat).drop (n - 10).toNat = [51, 68, 73] ++ part b 3 7
     ·rw [if_neg (by simpa using c4), if_neg (by intro h; exact h.2 c4)]
     ·rw [if_pos (by simpa using c4), if_pos ⟨c3, c4⟩]
    ·rw [if_neg (by rw [Ajf]; simpa using c3), if_neg (fun h => c3 h.1)]
 rw [Ml, Ui, g5, Aa, Ayd]
 by_cases c3 : b.getD 5 0 = 16
 ·rw [if_pos (by rw [Ajf]; simpa using c3), Ag (by rw [Ag] <;> omega) (by rw [Ag] <;> omega), Ag (by omega) (by omega), key _ (by omega) (by omega), if_pos c3, show 10 + r + 10 = r + 10 + 10 by omega]
 ·rw [if_neg (by rw [Ajf]; simpa using c3), Ag (by omega) (by omega), key _ (by omega) (by omega), if_neg c3, show 10 + r = r + 10 + 0 by omega]
theorem Blm (b : List UInt8) (hb : b.length < 4611686018427387904) : Ta b = some (Ak8 b) := by
 rw [Ta, Us, Ak8]
 by_cases h3 : 3 ≤ b.length
 ·rw [if_neg (by rw [Af, Ac]; simp; omega), Jm (by omega) (by omega), Aa]
  by_cases hp : b.take 3 = [73, 68, 51]
  ·rw [if_neg (by simpa using hp), if_neg (by simp [h3, hp]), Tw, Tu]
   by_cases h10 : b.length < 10
   ·rw [if_pos (by rw [Af, Ac]; simp; omega), if_pos h10]
   ·have e6 : Ca b (6 : Int) (10 : Int) = some (part b 6 4) := Mi 6 4 (by omega)
    have g3 : getI b (3 : Int) = some (b.getD 3 0) := Aor (i := 3) (by omega)
    have g4 : getI b (4 : Int) = some (b.getD 4 0) := Aor (i := 4) (by omega)
    have g5 : getI b (5 : Int) = some (b.getD 5 0) := Aor (i := 5) (by omega)
    obtain ⟨v1, v2⟩ := Bet (b := part b 6 4) (Dc (by omega))
    rw [if_neg (by rw [Af, Ac]; simp; omega), if_neg h10, e6, Aa, Bh1 _ (Dc (by omega)), Aa]
    have ht := Bn1 b (Ajc (part b 6 4) 0).1 (by omega) v1 v2
    generalize Ajc (part b 6 4) 0 = v at *
    obtain ⟨v, e⟩ := v
    simp only at ht v1 v2 ⊢
    simp only [Aa, g3, g4, g5, ht]
    generalize b.getD 3 0 = x at *
    generalize b.getD 4 0 = y at *
    generalize b.getD 5 0 = z at *
    simp only [Beq, Bqs, Blv, Am]
    by_cases he : e = 0 <;> by_cases hy : y = 0 <;> by_cases hz : z = 0 <;> by_cases hz2 : z = 16 <;> by_cases hx : x = 4 <;> by_cases hx2 : x.toNat < 2 <;> by_cases hx4 : 4 < x.toNat <;> simp_all <;> (rw [if_neg (by omega), if_neg (by omega)])
  ·rw [if_pos (by simpa using hp), if_pos (by simp [hp])]
 ·rw [if_pos (by rw [Af, Ac]; simp; omega), if_pos (by simp [h3])]
theorem Axq (b : List UInt8) (n : Int) (h10 : 10 ≤ b.length) (hn : 10 ≤ n) (hn2 : n < 268435500) : Wy b (b.getD 5 0) n = some (An1 b n) := by
 rw [Wy, Ak2]
 by_cases c1 : 4000 < n
 ·rw [if_pos (by rw [Bb]; simpa using c1), An1, if_pos c1]
 ·rw [if_neg (by rw [Bb]; simpa using c1)]
  by_cases c2 : (b.length : Int) < n
  ·rw [if_pos (by rw [Af, Ac]; simpa using c2), An1, if_neg c1, if_pos c2]
  ·have e3 : Ca b (3 : Int) (10 : Int) = some (part b 3 7) := Mi 3 7 (by omega)
   rw [if_neg (by rw [Af, Ac]; simpa using c2)]
   by_cases c3 : b.getD 5 0 = 16
   ·have hl : ((b.take n.toNat).drop (n - 10).toNat).length = 10 := by simp; omega
    have ht : An1 b n = if (b.take n.toNat).drop (n - 10).toNat ≠ [51, 68, 73] ++ part b 3 7 then (0, 12) else (n, 0) := by rw [An1, if_neg c1, if_neg c2]; simp only [c3, true_and]
    rw [if_pos (by rw [Ajf]; simpa using c3), Bg (by omega) (by omega), Xc (by omega) (by omega) (by omega), Aa, ht]
    generalize (b.take n.toNat).drop (n - 10).toNat = f at *
    rw [Jm (by omega) (by omega), Aa, Lk (by omega) (by omega), Aa, e3, Aa, Gw, Aa]
    have hf : f = f.take 3 ++ f.drop 3 := (List.take_append_drop 3 f).symm
    by_cases c4 : f = [51, 68, 73] ++ part b 3 7
    ·subst c4
     simp
    ·by_cases c5 : f.take 3 = [51, 68, 73]
     ·have : f.drop 3 ≠ part b 3 7 := fun h => c4 (by rw [hf, c5, h])
      simp only [List.cons_append, List.nil_append] at c4
      simp [c4, c5, this]
     ·simp only [List.cons_append, List.nil_append] at c4
      simp [c4, c5]
   ·rw [if_neg (by rw [Ajf]; simpa using c3), An1, if_neg c1, if_neg c2, if_neg (fun h => c3 h.1)]
theorem Bk2 (b : List UInt8) (r : Int) (h10 : 10 ≤ b.length) (h0 : 0 ≤ r) (h1 : r < 268435456) : Wz b r (b.getD 5 0) = some (Ayd b r) := by
 rw [Wz, Adx, Ayd]
 by_cases c3 : b.getD 5 0 = 16
 ·rw [if_pos (by rw [Ajf]; simpa using c3), Ag (by rw [Ag] <;> omega) (by rw [Ag] <;> omega), Ag (by omega) (by omega), Axq b _ h10 (by omega) (by omega), if_pos c3]
 ·rw [if_neg (by rw [Ajf]; simpa using c3), Ag (by omega) (by omega), Axq b _ h10 (by omega) (by omega), if_neg c3]; simp
theorem Bio (b : List UInt8) (hb : b.length < 4611686018427387904) : Aer b = some (Ak8 b) := by
 rw [Aer, Ww, Ajq, Aa]
 by_cases hp : 3 ≤ b.length ∧ b.take 3 = [73, 68, 51]
 ·rw [if_neg (by simpa using hp)]
  by_cases h10 : b.length < 10
  ·rw [if_pos (by rw [Af, Ac]; simp; omega), Ak8, if_neg (fun h => h hp), if_pos h10]
  ·have e6 : Ca b (6 : Int) (10 : Int) = some (part b 6 4) := Mi 6 4 (by omega)
   have g3 : getI b (3 : Int) = some (b.getD 3 0) := Aor (i := 3) (by omega)
   have g4 : getI b (4 : Int) = some (b.getD 4 0) := Aor (i := 4) (by omega)
   have g5 : getI b (5 : Int) = some (b.getD 5 0) := Aor (i := 5) (by omega)
   obtain ⟨v1, v2⟩ := Bet (b := part b 6 4) (Dc (by omega))
   have ht := Bk2 b (Ajc (part b 6 4) 0).1 (by omega) v1 v2
   rw [if_neg (by rw [Af, Ac]; simp; omega), g3, Aa, g5, Aa, Adt, Adn, e6, Aa, Bem _ (Dc (by omega)), Aa, Ak8, if_neg (fun h => h hp), if_neg h10]
   generalize Ajc (part b 6 4) 0 = v at *
   obtain ⟨v, e⟩ := v
   simp only at ht v1 v2 ⊢
   simp only [Aa, g4, Adm, Ad2]
   generalize b.getD 3 0 = x at *
   generalize b.getD 4 0 = y at *
   generalize b.getD 5 0 = z at *
   simp only [Beq, Bp7, Ajf, Bk4, Am]
   have e2 : (2 : UInt8).toNat = 2 := rfl
   have e4 : (4 : UInt8).toNat = 4 := rfl
   by_cases he : e = 0 <;> by_cases hy : y = 0 <;> by_cases hz : z = 0 <;> by_cases hz2 : z = 16 <;> by_cases hx : x = 4 <;> by_cases hx2 : 2 ≤ x.toNat <;> by_cases hx4 : x.toNat ≤ 4 <;> simp_all
 ·rw [if_pos (by rw [Bool.not_eq_true', decide_eq_false_iff_not]; exact hp), Ak8, if_pos hp]
theorem Blc {b : List UInt8} {n : Int} (h : Ak8 b = (n, 0)) : 10 ≤ n ∧ n ≤ b.length ∧ n ≤ 4000 := by
 unfold Ak8 at h
 split at h; · simp at h
 split at h; · simp at h
 split at h; · simp at h
 rename_i h10 _
 obtain ⟨v1, v2⟩ := Bet (b := part b 6 4) (Dc (by omega))
 unfold Ayd at h
 generalize hm : (Ajc (part b 6 4) 0).1 + 10 + (if b.getD 5 0 = 16 then 10 else 0) = m at h
 unfold An1 at h
 split at h; · simp at h
 split at h; · simp at h
 split at h; · simp at h
 simp only [Prod.mk.injEq, and_true] at h
 subst h
 refine ⟨?_, by omega, by omega⟩
 rw [← hm]
 split <;> omega
end Go.Pl
set_option linter.unusedVariables false
set_option linter.unusedSimpArgs false
namespace Go.Pl
open Go Go.Lv
def APE : List UInt8 := [65, 80, 69, 84, 65, 71, 69, 88]
def Lc (n m fl : Nat) : List UInt8 := APE ++ leB 2000 4 ++ leB (n + 32) 4 ++ leB m 4 ++ leB fl 4 ++ List.replicate 8 0
theorem Ag3 {n : Nat} (h : n < 18446744073709551616) : (UInt64.ofNat n).toNat = n := by rw [UInt64.toNat_ofNat', Nat.mod_eq_of_lt h]
theorem Anf (n m : Int) (fl : UInt64) (c : UInt64) (i q : Nat) (acc : List UInt8) (hi : i < 6) (hc : getI ([(2000 : UInt64), (Ad (Ae n (32 : Int)) : UInt64), (Ad m : UInt64), fl, (0 : UInt64), (0 : UInt64)] : List UInt64) (i : Int) = some c) (h : c.toNat < 4294967296) (ha : acc.length ≤ 1000000) :
  Xg n m fl (q + 1) (i : Int) acc = Xg n m fl q ((i + 1 : Nat) : Int) (acc ++ leB c.toNat 4) := by
 have hb := Bck c 4 (by omega) (by omega) (by simpa using h)
 rw [Xg, Akd, if_pos (by rw [Af, Ac]; simp; omega), hc, Aa, Aa, show ((4 : Int)) = ((4 : Nat) : Int) from rfl, hb, Aa]
 simp only
 rw [Gc (by rw [Nk]; omega), Aa, Ag (by omega) (by omega)]; rfl
theorem Av6 (n m : Nat) (fl : UInt64) (hn : n ≤ 3000) (hm : m ≤ 1000) (hf : fl.toNat < 4294967296) : Ana (n : Int) (m : Int) fl = some (Lc n m fl.toNat) := by
 have e1 : (Ad (Ae (n : Int) (32 : Int)) : UInt64).toNat = n + 32 := by rw [Ag (by omega) (by omega), show (n : Int) + 32 = ((n + 32 : Nat) : Int) by omega, Xt, Ag3 (by omega)]
 have e2 : (Ad (m : Int) : UInt64).toNat = m := by rw [Xt, Ag3 (by omega)]
 have hF : Ba = (Ba - 7) + 1 + 1 + 1 + 1 + 1 + 1 + 1 := by have := Au; omega
 rw [Ana, Aow, Aos, hF]
 rw [show ((0 : Int)) = ((0 : Nat) : Int) from rfl, Anf n m fl 2000 0 _ _ (by omega) rfl (by decide) (by simp), Anf n m fl _ 1 _ _ (by omega) rfl (by rw [e1]; omega) (by simp [Nk]), Anf n m fl _ 2 _ _ (by omega) rfl (by rw [e2]; omega) (by simp [Nk]),
  Anf n m fl fl 3 _ _ (by omega) rfl hf (by simp [Nk]), Anf n m fl 0 4 _ _ (by omega) rfl (by decide) (by simp [Nk]), Anf n m fl 0 5 _ _ (by omega) rfl (by decide) (by simp [Nk]), e1, e2]
 rw [Xg, Akd, if_neg (by rw [Af, Ac]; simp), Aoy, Ave, Lc]
 have z : leB (0 : UInt64).toNat 4 ++ leB (0 : UInt64).toNat 4 = List.replicate 8 0 := by decide
 have z2 : leB (2000 : UInt64).toNat 4 = leB 2000 4 := rfl
 rw [List.append_assoc _ (leB (0 : UInt64).toNat 4), z, z2]; rfl
theorem Aqp (n m : Nat) (fl : UInt64) (hn : n ≤ 3000) (hm : m ≤ 1000) (hf : fl.toNat < 4294967296) : Ju (n : Int) (m : Int) fl = some (Lc n m fl.toNat) := by
 have e1 : (Ad (Ae (n : Int) (32 : Int)) : UInt64).toNat = n + 32 := by rw [Ag (by omega) (by omega), show (n : Int) + 32 = ((n + 32 : Nat) : Int) by omega, Xt, Ag3 (by omega)]
 have e2 : (Ad (m : Int) : UInt64).toNat = m := by rw [Xt, Ag3 (by omega)]
 have w : ∀ c : UInt64, Cx c 4 = some (leB c.toNat 4) := fun c => Auz c 4 (by omega)
 have z2 : leB (2000 : UInt64).toNat 4 = leB 2000 4 := rfl
 rw [Ju]
 simp only [w, e1, e2, Aa]
 rw [Gc (by simp [Nk]), Aa, Gc (by simp [Nk]), Aa, Gc (by simp [Nk]), Aa, Gc (by simp [Nk]), Aa, At9 (by omega) (by omega), Aa, Gc (by simp [Nk]), Aa, z2]; rfl
theorem Ae9 {b : List UInt8} {a w k : Nat} (h : a + w ≤ k) : part (b.take k) a w = part b a w := by rw [part, part, List.take_take, Nat.min_eq_left h]
def Ac9 (b : List UInt8) : Bool := decide (Dy (part b 12 4) < 32 ∨ 3032 < Dy (part b 12 4) ∨ 1000 < Dy (part b 16 4))
theorem Bj5 (b : List UInt8) (h : 20 ≤ b.length) : (((Df (leU (part b 12 4)) (32 : UInt64)) || (Hp (leU (part b 12 4)) (3032 : UInt64))) || (Hp (leU (part b 16 4)) (1000 : UInt64))) = Ac9 b := by
 rw [As6, Ag5, Ag5, Ag7 (by rw [Dc (by omega)]; omega), Ag7 (by rw [Dc (by omega)]; omega), Ac9]
 show ((decide (Dy (part b 12 4) < 32) || decide (3032 < Dy (part b 12 4))) || decide (1000 < Dy (part b 16 4))) = _
 simp [Bool.or_assoc]
theorem Aq5 (b : List UInt8) (h : 20 ≤ b.length) (hb : Ac9 b = false) : Ak (Ad (leU (part b 12 4)) : Int) (32 : Int) = ((Dy (part b 12 4) - 32 : Nat) : Int) ∧ (Ad (leU (part b 16 4)) : Int) = ((Dy (part b 16 4) : Nat) : Int) ∧ Dy (part b 12 4) - 32 ≤ 3000 ∧ Dy (part b 16 4) ≤ 1000 := by
 simp only [Ac9, decide_eq_false_iff_not] at hb
 refine ⟨?_, Acg (by rw [Dc (by omega)]; omega), by omega, by omega⟩
 rw [Acg (by rw [Dc (by omega)]; omega), Bg (by omega) (by omega)]; omega
theorem Aks (b : List UInt8) (fl : UInt64) (h : 20 ≤ b.length) (hl : b.length < 4611686018427387904) (hf : fl.toNat < 4294967296) :
  Ae7 b fl = some (if Ac9 b = true then (0, 0, false) else (((Dy (part b 12 4) - 32 : Nat) : Int), ((Dy (part b 16 4) : Nat) : Int), b == Lc (Dy (part b 12 4) - 32) (Dy (part b 16 4)) fl.toNat)) := by
 have a1 : Ai1 b 12 4 = some (leU (part b 12 4), 0) := Axw b 12 4 (by omega) (by omega) (by omega) hl
 have a2 : Ai1 b 16 4 = some (leU (part b 16 4), 0) := Axw b 16 4 (by omega) (by omega) (by omega) hl
 rw [Ae7, a1, Aa]
 simp only
 rw [a2, Aa]
 simp only
 rw [Bj5 b h]
 cases hb : Ac9 b with
 | true => rfl
 | false =>
  obtain ⟨i1, i2, i3, i4⟩ := Aq5 b h hb
  rw [i1, i2, Av6 _ _ _ i3 i4 hf]
  rfl
theorem Bdj (b : List UInt8) (h : 20 ≤ b.length) (hl : b.length < 4611686018427387904) :
  Ij b = some (if Ac9 b = true then (0, 0, false) else (((Dy (part b 12 4) - 32 : Nat) : Int), ((Dy (part b 16 4) : Nat) : Int), true)) := by
 have a1 : Ca b 12 16 = some (part b 12 4) := Mi 12 4 (by omega)
 have a2 : Ca b 16 20 = some (part b 16 4) := Mi 16 4 (by omega)
 rw [Ij, a1, Aa, Ba3 _ (by rw [Dc (by omega)]; omega), Aa, a2, Aa, Ba3 _ (by rw [Dc (by omega)]; omega), Aa, Bj5 b h]
 cases hb : Ac9 b with
 | true => rfl
 | false =>
  obtain ⟨i1, i2, i3, i4⟩ := Aq5 b h hb
  rw [i1, i2]; rfl
def Ql (b : List UInt8) : Int × Int :=
 if ¬ (8 ≤ b.length ∧ b.take 8 = APE) then (0, 6) else if b.length < 32 then (0, 24) else
 if Ac9 b = true ∨ b.take 32 ≠ Lc (Dy (part b 12 4) - 32) (Dy (part b 16 4)) 2684354560 then (0, 12) else
 if b.length < Dy (part b 12 4) + 32 then (0, 24) else
 if (b.take (Dy (part b 12 4) + 32)).drop (Dy (part b 12 4)) ≠ Lc (Dy (part b 12 4) - 32) (Dy (part b 16 4)) 2147483648 then (0, 12) else (((Dy (part b 12 4) + 32 : Nat) : Int), 0)
theorem Bbl (b : List UInt8) : Ac9 (b.take 32) = Ac9 b := by rw [Ac9, Ac9, Ae9 (by omega), Ae9 (by omega)]
section
variable {b : List UInt8}
theorem fa1 (h : ¬ (8 ≤ b.length ∧ b.take 8 = APE)) : Ql b = (0, 6) := by rw [Ql, if_pos h]
theorem fa2 (h : 8 ≤ b.length ∧ b.take 8 = APE) (h2 : b.length < 32) : Ql b = (0, 24) := by rw [Ql, if_neg (fun h' => h' h), if_pos h2]
variable (h : 8 ≤ b.length ∧ b.take 8 = APE) (h2 : ¬ b.length < 32)
include h h2
theorem fa3 (h3 : Ac9 b = true) : Ql b = (0, 12) := by rw [Ql, if_neg (fun h' => h' h), if_neg h2, if_pos (.inl h3)]
theorem fa4 (h4 : b.take 32 ≠ Lc (Dy (part b 12 4) - 32) (Dy (part b 16 4)) 2684354560) : Ql b = (0, 12) := by rw [Ql, if_neg (fun h' => h' h), if_neg h2, if_pos (.inr h4)]
variable (h3 : Ac9 b = false) (h4 : b.take 32 = Lc (Dy (part b 12 4) - 32) (Dy (part b 16 4)) 2684354560)
include h3 h4
theorem fa5 (h5 : b.length < Dy (part b 12 4) + 32) : Ql b = (0, 24) := by
 rw [Ql, if_neg (fun h' => h' h), if_neg h2, if_neg (fun h' => h'.elim (fun e => by rw [h3] at e; cases e) fun e => e h4), if_pos h5]
theorem fa6 (h5 : ¬ b.length < Dy (part b 12 4) + 32) (h6 : (b.take (Dy (part b 12 4) + 32)).drop (Dy (part b 12 4)) ≠ Lc (Dy (part b 12 4) - 32) (Dy (part b 16 4)) 2147483648) : Ql b = (0, 12) := by
 rw [Ql, if_neg (fun h' => h' h), if_neg h2, if_neg (fun h' => h'.elim (fun e => by rw [h3] at e; cases e) fun e => e h4), if_neg h5, if_pos h6]
theorem fa7 (h5 : ¬ b.length < Dy (part b 12 4) + 32) (h6 : (b.take (Dy (part b 12 4) + 32)).drop (Dy (part b 12 4)) = Lc (Dy (part b 12 4) - 32) (Dy (part b 16 4)) 2147483648) : Ql b = (((Dy (part b 12 4) + 32 : Nat) : Int), 0) := by
 rw [Ql, if_neg (fun h' => h' h), if_neg h2, if_neg (fun h' => h'.elim (fun e => by rw [h3] at e; cases e) fun e => e h4), if_neg h5, if_neg (fun h' => h' h6)]
end
theorem Be6 (b : List UInt8) (hl : b.length < 4611686018427387904) : Am6 b = some (Ql b) := by
 rw [Am6, Ajq, Aa]
 by_cases hp : 8 ≤ b.length ∧ b.take 8 = APE
 ·rw [if_neg (by simpa [APE] using hp)]
  by_cases h32 : b.length < 32
  ·rw [if_pos (by rw [Af, Ac]; simp; omega), fa2 hp h32]
  ·have t := Aks (b.take 32) 2684354560 (by simp; omega) (by simp; omega) (by decide)
   rw [Bbl, Ae9 (by omega), Ae9 (by omega)] at t
   rw [if_neg (by rw [Af, Ac]; simp; omega), Jm (by omega) (by omega), Aa, show (32 : Int).toNat = 32 from rfl, t, Aa]
   cases hb : Ac9 b with
   | true => rw [fa3 hp h32 hb]; simp
   | false =>
    obtain ⟨i1, i2, i3, i4⟩ := Aq5 b (by omega) hb
    have i5 : 32 ≤ Dy (part b 12 4) := by simp only [Ac9, decide_eq_false_iff_not] at hb; omega
    simp only [Bool.false_eq_true, if_false, false_or]
    by_cases c1 : b.take 32 = Lc (Dy (part b 12 4) - 32) (Dy (part b 16 4)) 2684354560
    ·have c1' : b.take 32 = Lc (Dy (part b 12 4) - 32) (Dy (part b 16 4)) (2684354560 : UInt64).toNat := c1
     rw [if_neg (by simpa using c1'), Ag (by omega) (by omega)]
     have e1 : ((Dy (part b 12 4) - 32 : Nat) : Int) + 64 = ((Dy (part b 12 4) + 32 : Nat) : Int) := by omega
     rw [e1]
     by_cases c2 : b.length < Dy (part b 12 4) + 32
     ·rw [if_pos (by rw [Af, Ac]; simp; omega), fa5 hp h32 hb c1 c2]
     ·rw [if_neg (by rw [Af, Ac]; simp; omega), Bg (by omega) (by omega), Xc (by omega) (by omega) (by omega), Aa, Av6 _ _ _ i3 i4 (by decide), Aa, Gw, Aa]
      rw [show (((Dy (part b 12 4) + 32 : Nat) : Int)).toNat = Dy (part b 12 4) + 32 by omega, show (((Dy (part b 12 4) + 32 : Nat) : Int) - 32).toNat = Dy (part b 12 4) by omega]
      by_cases c3 : (b.take (Dy (part b 12 4) + 32)).drop (Dy (part b 12 4)) = Lc (Dy (part b 12 4) - 32) (Dy (part b 16 4)) 2147483648
      ·have c3' : (b.take (Dy (part b 12 4) + 32)).drop (Dy (part b 12 4)) = Lc (Dy (part b 12 4) - 32) (Dy (part b 16 4)) (2147483648 : UInt64).toNat := c3
       rw [if_neg (by simpa using c3'), fa7 hp h32 hb c1 c2 c3]
      ·have c3' : ¬ (b.take (Dy (part b 12 4) + 32)).drop (Dy (part b 12 4)) = Lc (Dy (part b 12 4) - 32) (Dy (part b 16 4)) (2147483648 : UInt64).toNat := c3
       rw [if_pos (by simpa using c3'), fa6 hp h32 hb c1 c2 c3]
    ·have c1' : ¬ b.take 32 = Lc (Dy (part b 12 4) - 32) (Dy (part b 16 4)) (2684354560 : UInt64).toNat := c1
     rw [if_pos (by simpa using c1'), fa4 hp h32 c1]
 ·rw [if_pos (by rw [Bool.not_eq_true', decide_eq_false_iff_not]; exact hp), fa1 hp]
theorem Bhk (b : List UInt8) (hl : b.length < 4611686018427387904) : Pz b = some (Ql b) := by
 rw [Pz, Rr]
 by_cases h8 : 8 ≤ b.length
 ·rw [if_neg (by rw [Af, Ac]; simp; omega), Jm (by omega) (by omega), Aa, show (8 : Int).toNat = 8 from rfl]
  by_cases ha : b.take 8 = APE
  ·have hp := And.intro h8 ha
   rw [if_neg (by simpa [APE] using ha), Rk, Sm]
   by_cases h32 : b.length < 32
   ·rw [if_pos (by rw [Af, Ac]; simp; omega), fa2 hp h32]
   ·have t := Bdj (b.take 32) (by simp; omega) (by simp; omega)
    rw [Bbl, Ae9 (by omega), Ae9 (by omega)] at t
    rw [if_neg (by rw [Af, Ac]; simp; omega), Jm (by omega) (by omega), Aa, show (32 : Int).toNat = 32 from rfl, t, Aa]
    cases hb : Ac9 b with
    | true => rw [fa3 hp h32 hb]; simp
    | false =>
     obtain ⟨i1, i2, i3, i4⟩ := Aq5 b (by omega) hb
     have i5 : 32 ≤ Dy (part b 12 4) := by simp only [Ac9, decide_eq_false_iff_not] at hb; omega
     simp only [Bool.false_eq_true, if_false, false_or, Aa, Bool.not_true]
     rw [Lz, Aqp _ _ _ i3 i4 (by decide), Aa, Aa]
     by_cases c1 : b.take 32 = Lc (Dy (part b 12 4) - 32) (Dy (part b 16 4)) 2684354560
     ·have c1' : b.take 32 = Lc (Dy (part b 12 4) - 32) (Dy (part b 16 4)) (2684354560 : UInt64).toNat := c1
      rw [if_neg (by simpa using c1'), Rw, Aa3, Ag (by omega) (by omega)]
      have e1 : 64 + ((Dy (part b 12 4) - 32 : Nat) : Int) = ((Dy (part b 12 4) + 32 : Nat) : Int) := by omega
      rw [e1]
      by_cases c2 : b.length < Dy (part b 12 4) + 32
      ·rw [if_pos (by rw [Af, Ac]; simp; omega), fa5 hp h32 hb c1 c2]
      ·rw [if_neg (by rw [Af, Ac]; simp; omega), Bg (by omega) (by omega), Xc (by omega) (by omega) (by omega), Aa, Dk, if_pos rfl, Aqp _ _ _ i3 i4 (by decide), Aa, Aa]
       rw [show (((Dy (part b 12 4) + 32 : Nat) : Int)).toNat = Dy (part b 12 4) + 32 by omega, show (((Dy (part b 12 4) + 32 : Nat) : Int) - 32).toNat = Dy (part b 12 4) by omega]
       by_cases c3 : (b.take (Dy (part b 12 4) + 32)).drop (Dy (part b 12 4)) = Lc (Dy (part b 12 4) - 32) (Dy (part b 16 4)) 2147483648
       ·have c3' : (b.take (Dy (part b 12 4) + 32)).drop (Dy (part b 12 4)) = Lc (Dy (part b 12 4) - 32) (Dy (part b 16 4)) (2147483648 : UInt64).toNat := c3
        rw [if_neg (by simpa using c3'), fa7 hp h32 hb c1 c2 c3]
       ·have c3' : ¬ (b.take (Dy (part b 12 4) + 32)).drop (Dy (part b 12 4)) = Lc (Dy (part b 12 4) - 32) (Dy (part b 16 4)) (2147483648 : UInt64).toNat := c3
        rw [if_pos (by simpa using c3'), fa6 hp h32 hb c1 c2 c3]
     ·have c1' : ¬ b.take 32 = Lc (Dy (part b 12 4) - 32) (Dy (part b 16 4)) (2684354560 : UInt64).toNat := c1
      rw [if_pos (by simpa using c1'), fa4 hp h32 c1]
  ·rw [if_pos (by simpa [APE] using ha), fa1 (fun h => ha h.2)]
 ·rw [if_pos (by rw [Af, Ac]; simp; omega), fa1 (fun h => h8 h.1)]
theorem Bje {b : List UInt8} {n : Int} (h : Ql b = (n, 0)) : 64 ≤ n ∧ n ≤ b.length := by
 unfold Ql at h
 split at h; · simp at h
 split at h; · simp at h
 split at h; · simp at h
 rename_i hb
 split at h; · simp at h
 split at h; · simp at h
 simp only [Prod.mk.injEq, and_true] at h
 have hb' : ¬ Ac9 b = true := fun e => hb (.inl e)
 simp only [Ac9, decide_eq_true_eq] at hb'
 omega
end Go.Pl
set_option linter.unusedVariables false
set_option linter.unusedSimpArgs false
namespace Go.Pl
open Go Go.Lv
def Ef (b : List UInt8) : Int × Int := if (Ak8 b).2 ≠ 6 then Ak8 b else Ql b
theorem size_eq (b : List UInt8) (hl : b.length < 4611686018427387904) : Up b = some (Ef b) := by
 rw [Up, Bio b hl, Aa, Be6 b hl]
 by_cases h : (Ak8 b).2 = 6
 ·simp [Ef, h, Am]
 ·simp [Ef, h, Am]
theorem Auw {b : List UInt8} {n : Int} (h : Ef b = (n, 0)) : 10 ≤ n ∧ n ≤ b.length := by
 unfold Ef at h
 split at h
 ·have := Blc h; omega
 ·have := Bje h; omega
def Da (b : List UInt8) : Nat → Nat → List Int × Int
 | 0, _ => ([], 6)
 | j + 1, p => if (Ef (b.drop p)).2 = 6 then ([], 0) else if (Ef (b.drop p)).2 ≠ 0 then ([], (Ef (b.drop p)).2) else
  if 4000 < (p : Int) + (Ef (b.drop p)).1 then ([], 4) else
  if (Da b j (p + (Ef (b.drop p)).1.toNat)).2 = 0 then ((Ef (b.drop p)).1 :: (Da b j (p + (Ef (b.drop p)).1.toNat)).1, 0) else ([], (Da b j (p + (Ef (b.drop p)).1.toNat)).2)
theorem Aq7 (b : List UInt8) : ∀ (j p : Nat), p ≤ b.length → p ≤ 4000 → (Da b j p).2 = 0 → (∀ x ∈ (Da b j p).1, 10 ≤ x) ∧ (p : Int) + (Da b j p).1.sum ≤ b.length ∧ (p : Int) + (Da b j p).1.sum ≤ 4000
 | 0, p, _, _, h => by simp [Da] at h
 | j + 1, p, hp, hq, h => by
  rw [Da] at h ⊢
  split at h
  ·rename_i h6; rw [if_pos h6]; simp; omega
  ·rename_i h6
   split at h
   ·rename_i h0; exact absurd h h0
   ·rename_i h0
    rw [if_neg h6, if_neg h0]
    have hz : Ef (b.drop p) = ((Ef (b.drop p)).1, 0) := by rw [Prod.ext_iff]; exact ⟨rfl, Classical.not_not.1 h0⟩
    have hs := Auw hz
    rw [List.length_drop] at hs
    split at h
    ·simp at h
    ·rename_i h4
     rw [if_neg h4]
     split at h
     ·rename_i h00
      rw [if_pos h00]
      obtain ⟨i1, i2, i3⟩ := Aq7 b j _ (by omega) (by omega) h00
      refine ⟨fun x hx => ?_, ?_, ?_⟩
      ·rcases List.mem_cons.1 hx with rfl | hx
       ·exact hs.1
       ·exact i1 x hx
      ·simp only [List.sum_cons]; omega
      ·simp only [List.sum_cons]; omega
     ·rename_i h00; exact absurd h h00
def Bh7 (b : List UInt8) (j p : Nat) : Int × Int := if (Da b j p).2 = 0 then ((p : Int) + (Da b j p).1.sum, 0) else (0, (Da b j p).2)
theorem Avf (b : List UInt8) (hl : b.length < 4611686018427387904) : ∀ (j p q : Nat), p ≤ b.length → p ≤ 4000 → b.length - p < j → j ≤ q → Ra b q (p : Int) = some (Bh7 b j p)
 | 0, p, q, _, _, h, _ => by omega
 | j + 1, p, q, hp, hp4, hj, hq => by
  obtain ⟨q, rfl⟩ : ∃ k, q = k + 1 := ⟨q - 1, by omega⟩
  rw [Ra, Lk (by omega) (by omega), Aa, Int.toNat_natCast, size_eq _ (by simp; omega), Aa, Cg, Cg, Am, Bh7]
  by_cases h6 : (Ef (b.drop p)).2 = 6
  ·rw [if_pos (by simpa using h6)]
   have : Da b (j + 1) p = ([], 0) := by rw [Da, if_pos h6]
   rw [this]; simp
  ·rw [if_neg (by simpa using h6)]
   by_cases h0 : (Ef (b.drop p)).2 = 0
   ·have hz : Ef (b.drop p) = ((Ef (b.drop p)).1, 0) := by rw [Prod.ext_iff]; exact ⟨rfl, h0⟩
    have hs := Auw hz
    rw [List.length_drop] at hs
    rw [Ag (by omega) (by omega), Bb]
    by_cases h4 : 4000 < (p : Int) + (Ef (b.drop p)).1
    ·rw [if_pos (by simp [h0]; omega)]
     have : Da b (j + 1) p = ([], 4) := by rw [Da, if_neg h6, if_neg (fun h => h h0), if_pos h4]
     rw [this]; simp
    ·rw [if_neg (by simp [h0]; omega), if_neg (by simpa using h0)]
     have ih := Avf b hl j (p + (Ef (b.drop p)).1.toNat) q (by omega) (by omega) (by omega) (by omega)
     rw [show (p : Int) + (Ef (b.drop p)).1 = ((p + (Ef (b.drop p)).1.toNat : Nat) : Int) by omega, ih, Bh7]
     have : Da b (j + 1) p = if (Da b j (p + (Ef (b.drop p)).1.toNat)).2 = 0 then ((Ef (b.drop p)).1 :: (Da b j (p + (Ef (b.drop p)).1.toNat)).1, 0) else ([], (Da b j (p + (Ef (b.drop p)).1.toNat)).2) := by
      rw [Da, if_neg h6, if_neg (fun h => h h0), if_neg h4]
     rw [this]
     by_cases hr : (Da b j (p + (Ef (b.drop p)).1.toNat)).2 = 0
     ·simp only [hr, if_true, List.sum_cons]; congr 2; omega
     ·simp only [hr, if_false]
   ·rw [if_neg (by simp [h0]), if_pos (by simpa using h0)]
    have : Da b (j + 1) p = ([], (Ef (b.drop p)).2) := by rw [Da, if_neg h6, if_pos h0]
    rw [this]; simp [h0]
def Bkz (b : List UInt8) (j p : Nat) (xs : List Int) : List Int × Int := if (Da b j p).2 = 0 then (xs ++ (Da b j p).1, 0) else ([], (Da b j p).2)
theorem Bks (bk : Int → List Int → Option (List Int × Int)) (b : List UInt8) (p : Nat) (hp : p ≤ b.length) (xs : List Int) (hx : xs.length ≤ 4000) (hl : b.length < 4611686018427387904) : Ku (Hf bk b) b (p : Int) xs = Hf bk b (p : Int) xs (Ef (b.drop p)).1 (Ef (b.drop p)).2 := by
 have hf := Bhk (b.drop p) (by simp; omega)
 rw [Ku, Lk (by omega) (by omega), Aa, Int.toNat_natCast, Blm _ (by simp; omega), Aa]
 by_cases h : (Ak8 (b.drop p)).2 = 6
 ·simp [Ef, h, Cg, hf]
 ·simp [Ef, h, Cg]
theorem Ayn (b : List UInt8) (hl : b.length < 4611686018427387904) : ∀ (j p q : Nat) (xs : List Int), p ≤ b.length → p ≤ 4000 → b.length - p < j → j ≤ q → xs.length ≤ p → He b q (p : Int) xs = some (Bkz b j p xs)
 | 0, p, q, _, _, _, h, _, _ => by omega
 | j + 1, p, q, xs, hp, hp4, hj, hq, hx => by
  obtain ⟨q, rfl⟩ : ∃ k, q = k + 1 := ⟨q - 1, by omega⟩
  rw [He, Bks _ b p hp xs (by omega) hl, Hf, Aas, Cg, Am, Bkz]
  by_cases h6 : (Ef (b.drop p)).2 = 6
  ·rw [if_pos (by simpa using h6)]
   have : Da b (j + 1) p = ([], 0) := by rw [Da, if_pos h6]
   rw [this]; simp
  ·rw [if_neg (by simpa using h6)]
   by_cases h0 : (Ef (b.drop p)).2 = 0
   ·have hz : Ef (b.drop p) = ((Ef (b.drop p)).1, 0) := by rw [Prod.ext_iff]; exact ⟨rfl, h0⟩
    have hs := Auw hz
    rw [List.length_drop] at hs
    rw [if_neg (by simpa using h0), Ag (by omega) (by omega), Bb]
    by_cases h4 : 4000 < (p : Int) + (Ef (b.drop p)).1
    ·rw [if_pos (by simp; omega)]
     have : Da b (j + 1) p = ([], 4) := by rw [Da, if_neg h6, if_neg (fun h => h h0), if_pos h4]
     rw [this]; simp
    ·rw [if_neg (by simp; omega), Gc (by simp; omega), Aa]
     have ih := Ayn b hl j (p + (Ef (b.drop p)).1.toNat) q (xs ++ [(Ef (b.drop p)).1]) (by omega) (by omega) (by omega) (by omega) (by simp; omega)
     rw [show (p : Int) + (Ef (b.drop p)).1 = ((p + (Ef (b.drop p)).1.toNat : Nat) : Int) by omega, ih, Bkz]
     have : Da b (j + 1) p = if (Da b j (p + (Ef (b.drop p)).1.toNat)).2 = 0 then ((Ef (b.drop p)).1 :: (Da b j (p + (Ef (b.drop p)).1.toNat)).1, 0) else ([], (Da b j (p + (Ef (b.drop p)).1.toNat)).2) := by
      rw [Da, if_neg h6, if_neg (fun h => h h0), if_neg h4]
     rw [this]
     by_cases hr : (Da b j (p + (Ef (b.drop p)).1.toNat)).2 = 0
     ·simp only [hr, if_true]; simp
     ·simp only [hr, if_false]
   ·rw [if_pos (by simpa using h0)]
    have : Da b (j + 1) p = ([], (Ef (b.drop p)).2) := by rw [Da, if_neg h6, if_pos h0]
    rw [this]; simp [h0]
theorem Ata : ∀ {l : List Int}, (∀ x ∈ l, 10 ≤ x) → 0 ≤ l.sum ∧ (l.length : Int) ≤ l.sum
 | [], _ => by simp
 | x :: l, h => by
  have h1 := h x List.mem_cons_self
  have h2 := Ata (l := l) fun y hy => h y (List.mem_cons_of_mem _ hy)
  simp only [List.sum_cons, List.length_cons]; omega
theorem Awg (r : Int) (l : List Int) (hl : l.length ≤ 4000) (hx : ∀ x ∈ l, 10 ≤ x) : ∀ (j i q : Nat) (n : Int), i + j = l.length → j < q → 0 ≤ n → n + (l.drop i).sum ≤ 4000 → Fe r l q n (i : Int) = some (n + (l.drop i).sum, r)
 | 0, i, q + 1, n, hi, _, _, _ => by
  rw [Fe, Ks, if_neg (by rw [Af, Ac]; simp; omega), show i = l.length by omega, List.drop_length]
  simp [Ro, Aa2]
 | j + 1, i, q + 1, n, hi, hq, hn, hs => by
  have hlt : i < l.length := by omega
  rw [drop_cons hlt, List.sum_cons] at hs ⊢
  have h1 := hx l[i] (List.getElem_mem hlt)
  have h2 := Ata (l := l.drop (i + 1)) fun y hy => hx y (List.mem_of_mem_drop hy)
  rw [Fe, Ks, if_pos (by rw [Af, Ac]; simp; omega), Ds hlt, Aa, Aa, Ag (by omega) (by omega), Ag (by omega) (by omega)]
  have ih := Awg r l hl hx j (i + 1) q (n + l[i]) (by omega) (by omega) (by omega) (by omega)
  rw [show ((i : Int) + 1) = ((i + 1 : Nat) : Int) by omega, ih]
  congr 2; omega
def frontS (b : List UInt8) : Int × Int := Bh7 b (b.length + 1) 0
theorem Awd (b : List UInt8) (hl : b.length < 4611686018427387904) : Xy b = some (frontS b) := by
 have := Avf b hl (b.length + 1) 0 Ba (by omega) (by omega) (by omega) (by have := Au; omega)
 exact this
theorem Baa (b : List UInt8) (hl : b.length < 4611686018427387904) : Qk b = some (frontS b) := by
 have h := Ayn b hl (b.length + 1) 0 Ba [] (by omega) (by omega) (by omega) (by have := Au; omega) (by simp)
 have h' : Xj b = some (Bkz b (b.length + 1) 0 []) := h
 rw [Qk, Sg, h', Aa, frontS, Bh7, Bkz]
 have ho := Aq7 b (b.length + 1) 0 (by omega) (by omega)
 by_cases h0 : (Da b (b.length + 1) 0).2 = 0
 ·obtain ⟨i1, i2, i3⟩ := ho h0
  have hp := Ata i1
  simp only [h0, if_true, List.nil_append]
  have := Awg 0 (Da b (b.length + 1) 0).1 (by omega) i1 (Da b (b.length + 1) 0).1.length 0 Ba 0 (by omega) (by have := Au; omega) (by omega) (by simpa using i3)
  simpa [Kt] using this
 ·simp only [h0, if_false]
  have := Awg (Da b (b.length + 1) 0).2 [] (by simp) (by simp) 0 0 Ba 0 (by simp) (by have := Au; omega) (by omega) (by simp)
  simpa [Kt] using this
theorem Bho {b : List UInt8} (h : (frontS b).2 = 0) : 0 ≤ (frontS b).1 ∧ (frontS b).1 ≤ b.length ∧ (frontS b).1 ≤ 4000 := by
 unfold frontS Bh7 at h ⊢
 split at h
 ·rename_i h0
  rw [if_pos h0]
  obtain ⟨i1, i2, i3⟩ := Aq7 b (b.length + 1) 0 (by omega) (by omega) h0
  have hp := Ata i1
  exact ⟨by simp; omega, i2, i3⟩
 ·rename_i h0; exact absurd h h0
end Go.Pl
set_option linter.unusedVariables false
set_option linter.unusedSimpArgs false
namespace Go.Pl
open Go Go.Lv
def longN (r : Nat) : Nat := max 1 (256 * r / 245)
theorem Ab0 (r : Nat) : 1 ≤ longN r := Nat.le_max_left _ _
theorem Awh {r : Nat} (h : r ≤ 1048576) : longN r ≤ 1100000 := by unfold longN; omega
theorem Bby {r : Nat} (h : r ≤ 1048576) : Ans (1 : Int) (Cu (Bj (256 : Int) (r : Int)) (245 : Int)) = (longN r : Int) := by
 rw [Gz (by omega) (by omega), Adu, Int.tdiv_eq_ediv_of_nonneg (by omega), Bt (by omega) (by omega), Bel, longN]; omega
def framesL (g n : Nat) : List Int := List.replicate ((n - 1) / g) (g : Int) ++ [((n - (n - 1) / g * g : Nat) : Int)]
theorem Adg (g n : Nat) : (framesL g n).length = (n - 1) / g + 1 := by simp [framesL]
theorem Aww {g n : Nat} (h : n ≤ g) (h1 : 1 ≤ n) : framesL g n = [(n : Int)] := by
 rw [framesL, Nat.div_eq_of_lt (by omega)]; simp
theorem Bat {g n : Nat} (hg : 1 ≤ g) (h : g < n) : framesL g n = (g : Int) :: framesL g (n - g) := by
 have e : (n - 1) / g = (n - g - 1) / g + 1 := by rw [← Nat.add_div_right _ (by omega)]; congr 1; omega
 rw [framesL, framesL, e, List.replicate_succ, List.cons_append]
 congr 4
 have := Nat.div_mul_le_self (n - g - 1) g
 rw [Nat.add_mul, Nat.one_mul]; omega
theorem Apq {g n : Nat} (hg : 1 ≤ g) (h1 : 1 ≤ n) : (n + g - 1) / g = (n - 1) / g + 1 := by
 rw [← Nat.add_div_right _ (by omega)]; congr 1; omega
theorem Arb {r : Nat} (h1 : 1 ≤ r) (h : r ≤ 1048576) : Vf (r : Int) = some ((longN r : Int), 0) := by
 rw [Vf, if_neg (by simp [Af, Bb]; omega), Bby h]
theorem Blp {r : Nat} (h : r ≤ 1048576) : Me (r : Int) = some (longN r : Int) := by rw [Me, Bby h]
theorem Ao7 {r n : Nat} (h1 : 1 ≤ r) (h : r ≤ 1048576) (n1 : 1 ≤ n) (n2 : n ≤ 4000) : Qz (r : Int) (n : Int) = some (if 1000 < (n - 1) / longN r + 1 then (0, 4) else ((((n - 1) / longN r + 1 : Nat) : Int), 0)) := by
 have hp := Ab0 r
 have hl := Awh h
 have e : Cu (Ak (Ae (n : Int) (longN r : Int)) (1 : Int)) (longN r : Int) = (((n - 1) / longN r + 1 : Nat) : Int) := by
  have : (n + longN r - 1) / longN r ≤ n + longN r - 1 := Nat.div_le_self _ _
  rw [Ag (by omega) (by omega), Bg (by omega) (by omega), Adu, Int.tdiv_eq_ediv_of_nonneg (by omega), show (n : Int) + (longN r : Int) - 1 = ((n + longN r - 1 : Nat) : Int) by omega, ← Int.natCast_ediv, Apq hp n1]
  rw [Apq hp n1] at this
  generalize (n - 1) / longN r = k at *
  exact Bt (by omega) (by omega)
 rw [Qz, Arb h1 h, Aa]
 simp only
 rw [if_neg (by rw [Am]; simp), if_neg (by simp [Af, Bb]; omega), Cm (by rw [Am]; simp; omega), Aa, e]
 by_cases hk : 1000 < (n - 1) / longN r + 1
 ·rw [if_pos (by rw [Bb]; simp; omega), if_pos hk]
 ·rw [if_neg (by rw [Bb]; simp; omega), if_neg hk]
theorem Au4 {r : Nat} (h : r ≤ 1048576) : ∀ (j n q : Nat) (acc : List Int), n ≤ 4000 → n ≤ j → j < q → acc.length + n ≤ 10000 → De (r : Int) q (n : Int) acc = some (acc ++ (if n = 0 then [] else framesL (longN r) n))
 | 0, n, q + 1, acc, hn, hj, hq, ha => by
  obtain rfl : n = 0 := by omega
  rw [De, Fi, if_neg (by rw [Bb]; simp)]
  simp [Hi, Kn]
 | j + 1, n, q + 1, acc, hn, hj, hq, ha => by
  have hp := Ab0 r
  have hl := Awh h
  by_cases h0 : n = 0
  ·subst h0
   rw [De, Fi, if_neg (by rw [Bb]; simp)]
   simp [Hi, Kn]
  ·rw [De, Fi, if_pos (by rw [Bb]; simp; omega), Blp h, Aa, Gc (by simp; omega), Aa, Aa, Bg (by omega) (by omega), Ahu]
   by_cases hs : n ≤ longN r
   ·rw [show min (n : Int) (longN r : Int) = (n : Int) by omega, if_neg h0, Aww hs (by omega)]
    have hz : ∃ k, q = k + 1 := ⟨q - 1, by omega⟩
    obtain ⟨q, rfl⟩ := hz
    rw [De, Fi, if_neg (by rw [Bb]; simp; omega)]
    simp [Hi, Kn]
   ·rw [show min (n : Int) (longN r : Int) = (longN r : Int) by omega, show (n : Int) - (longN r : Int) = ((n - longN r : Nat) : Int) by omega, Au4 h j (n - longN r) q _ (by omega) (by omega) (by omega) (by simp; omega), if_neg (by omega), if_neg h0, Bat hp (show longN r < n by omega)]
    simp
theorem Apm {r n : Nat} (h : r ≤ 1048576) (n1 : 1 ≤ n) (n2 : n ≤ 4000) : Dt (r : Int) (n : Int) = some (framesL (longN r) n) := by
 have := Au4 h n n Ba [] n2 (Nat.le_refl _) (by have := Au; omega) (by simp; omega)
 rw [Dt, Rv, Rp, this, if_neg (by omega)]; rfl
theorem mul_one (m : Nat) (h : m ≤ 100000) : Ab8 (1 : UInt64) (UInt64.ofNat m) = some (0, UInt64.ofNat m) := by
 have y1 : (UInt64.ofNat m).toNat = m := Ag3 (by omega)
 have s1 : Cn (1 : UInt64) (GI.toZ (32 : UInt64)).toNat = 0 := by decide
 have s2 : Cn (UInt64.ofNat m) (GI.toZ (32 : UInt64)).toNat = 0 := by
  apply UInt64.toNat_inj.1
  rw [Adj, y1]
  exact Nat.div_eq_of_lt (Nat.lt_of_le_of_lt h (by decide))
 have s0 : Cn (0 : UInt64) (GI.toZ (32 : UInt64)).toNat = 0 := by decide
 have a1 : Hm (1 : UInt64) (4294967295 : UInt64) = 1 := by decide
 have a0 : Hm (0 : UInt64) (4294967295 : UInt64) = 0 := by decide
 have a2 : Hm (UInt64.ofNat m) (4294967295 : UInt64) = UInt64.ofNat m := by
  apply UInt64.toNat_inj.1
  rw [Awb, UInt64.toNat_and, y1]
  show m &&& (2 ^ 32 - 1) = m
  rw [Nat.and_two_pow_sub_one_eq_mod, Nat.mod_eq_of_lt (by omega)]
 have m1 : ∀ x : UInt64, Bj 1 x = x := fun x => by rw [Ac8, UInt64.one_mul]
 have m0 : ∀ x : UInt64, Bj 0 x = 0 := fun x => by rw [Ac8, UInt64.zero_mul]
 have p0 : ∀ x : UInt64, Ae 0 x = x := fun x => by rw [Acp, UInt64.zero_add]
 have p1 : ∀ x : UInt64, Ae x 0 = x := fun x => by rw [Acp, UInt64.add_zero]
 rw [Ab8, Ads]
 simp only [s1, s2, a1, a2, m1, m0, p0, p1, s0, a0, Aa]
theorem Arw (v : Int) (m : Nat) (hm : m ≤ 100000) : ∀ (j n q : Nat), 1 ≤ n → n ≤ m → m - n ≤ j → j < q → Dw q (n : Int) (List.replicate n v ++ List.replicate (m - n) 0) = some (List.replicate m v)
 | j, n, q + 1, hn, hnm, hj, hq => by
  have hlen : Ac (List.replicate n v ++ List.replicate (m - n) 0) = (m : Int) := by simp [Ac]; omega
  rw [Dw, Fp, hlen]
  by_cases h : n < m
  ·obtain ⟨j, rfl⟩ : ∃ k, j = k + 1 := ⟨j - 1, by omega⟩
   rw [if_pos (by rw [Af]; simp; omega)]
   have v1 : vwI (m : Int) (n : Int) (m : Int) = some () := by rw [vwI, Cm]; simp; omega
   have v2 : vwI (m : Int) (0 : Int) (n : Int) = some () := by rw [vwI, Cm]; simp; omega
   have e1 : Aix (List.replicate n v ++ List.replicate (m - n) 0) (0 : Int) ((n : Int) - 0) = List.replicate n v := by
    simp [Aix]
   rw [v1, Aa, v2, Aa, e1]
   have e2 : Afn ((m : Int) - (n : Int)) (List.replicate n v).length = ((min n (m - n) : Nat) : Int) := by
    rw [Afn, List.length_replicate]; split <;> omega
   have e3 : Sk (List.replicate n v ++ List.replicate (m - n) 0) (n : Int) ((m : Int) - (n : Int)) (List.replicate n v) = List.replicate (n + min n (m - n)) v ++ List.replicate (m - (n + min n (m - n))) 0 := by
    have t1 : ((m : Int) - (n : Int)).toNat = m - n := by omega
    have t2 : (List.replicate n v ++ List.replicate (m - n) (0 : Int)).take n = List.replicate n v := by simp
    rw [Sk, t1, Int.toNat_natCast, t2, List.take_replicate, List.length_replicate, ← List.append_assoc, List.replicate_append_replicate, List.drop_append, List.length_replicate, Nat.min_comm (m - n) n]
    simp only [List.drop_replicate]
    rw [show n - (n + min n (m - n)) = 0 by omega, List.replicate_zero, List.nil_append, show m - n - (n + min n (m - n) - n) = m - (n + min n (m - n)) by omega]
   rw [e2, e3, Ag (by omega) (by omega), show (n : Int) + ((min n (m - n) : Nat) : Int) = ((n + min n (m - n) : Nat) : Int) by omega]
   exact Arw v m hm j (n + min n (m - n)) q (by omega) (by omega) (by omega) (by omega)
  ·rw [if_neg (by rw [Af]; simp; omega)]
   obtain rfl : n = m := by omega
   simp [Hc, Lf]
theorem Bi0 (v : Int) (m : Nat) (hm : m ≤ 100000) : Km [v] (m : Int) = some (List.replicate m v) := by
 have y1 : (UInt64.ofNat m).toNat = m := Ag3 (by omega)
 have c1 : (Ad (Ac [v]) : UInt64) = 1 := by rfl
 have c2 : (Ad (m : Int) : UInt64) = UInt64.ofNat m := Xt m
 have c3 : (Ad (UInt64.ofNat m) : Int) = (m : Int) := by rw [Ark (by omega), y1]
 rw [Km, Nf, if_neg (by rw [Af]; simp), Na, Mw, c1, c2, mul_one m hm, Aa]
 simp only
 rw [if_neg (by rw [Ag5, Ag5, y1]; simp; show m ≤ 9223372036854775807; omega), Mt, Mv, c3, At9 (by omega) (by omega), Aa, Cm (by rw [Cg]; simp), Aa, Nb, Int.toNat_natCast]
 by_cases h0 : m = 0
 ·subst h0
  have hF : Ba = (Ba - 1) + 1 := by have := Au; omega
  rw [hF, Dw, Fp]
  simp [Ac, Av2, Afn, Af, Hc, Lf]
 ·have := Arw v m hm m 1 Ba (by omega) (by omega) (by omega) (by have := Au; omega)
  have e1 : Afn (Ac (List.replicate m (0 : Int))) [v].length = ((1 : Nat) : Int) := by simp [Afn, Ac]; omega
  have e2 : Av2 (List.replicate m (0 : Int)) [v] = List.replicate 1 v ++ List.replicate (m - 1) 0 := by
   obtain ⟨k, rfl⟩ : ∃ k, m = k + 1 := ⟨m - 1, by omega⟩
   simp [Av2]
  rw [e1, e2, this]
theorem Bim (l m : List Int) (h : l.length + m.length ≤ 1000000) : Kj [l, m] = some (l ++ m) := by
 have hF : Ba = (Ba - 3) + 1 + 1 + 1 := by have := Au; omega
 rw [Kj, Nc, Mx]
 have g0 : getI [l, m] (0 : Int) = some l := rfl
 have g1 : getI [l, m] (1 : Int) = some m := rfl
 have l2 : Ac [l, m] = 2 := rfl
 have h3 : Ha [l, m] [] = some (l ++ m) := by
  rw [Ha, Li, Lg, hF, Dq, Ey, l2, if_pos (by decide), g0, Aa, Gc (by simp; omega), Aa, List.nil_append, show Ae (0 : Int) 1 = 1 by decide,
   Dq, Ey, l2, if_pos (by decide), g1, Aa, Gc (by omega), Aa, show Ae (1 : Int) 1 = 2 by decide, Dq, Ey, l2, if_neg (by decide)]
  rfl
 rw [hF, Dv, Fm, l2, if_pos (by decide), g0, Aa, Ag (by unfold Ac; omega) (by unfold Ac; omega), if_neg (by rw [Af, Ac]; simp), show Ae (0 : Int) 1 = 1 by decide,
  Dv, Fm, l2, if_pos (by decide), g1, Aa, Ag (by unfold Ac; omega) (by unfold Ac; omega), if_neg (by rw [Af, Ac, Ac]; simp; omega), show Ae (1 : Int) 1 = 2 by decide,
  Dv, Fm, l2, if_neg (by decide), Le, Ld, if_neg (by rw [Af, Ac, Ac]; simp; omega), Lh, Lj]
 have z : Ak (0 : Int) 0 = 0 := by decide
 have n0 : (0 : Int) + Ac l + Ac m = ((l.length + m.length : Nat) : Int) := by simp [Ac]
 rw [z, n0, Bg (by omega) (by omega), Int.sub_zero]
 by_cases hp : 0 < l.length + m.length
 ·rw [if_pos (by rw [Bb]; simp; omega), show vwI (0 : Int) 0 0 = some () from rfl, Aa, At9 (by omega) (by omega), Aa, Gc (by simp; omega), Aa]
  rw [show vwI (Ac ([] ++ List.replicate ((l.length + m.length : Nat) : Int).toNat (0 : Int))) 0 0 = some () by rw [vwI, Cm]; simp [Ac]; omega, Aa]
  simp only [Aix, Int.sub_self, Int.toNat_zero, List.take_zero]
  exact h3
 ·rw [if_neg (by rw [Bb]; simp; omega)]; exact h3
theorem Bkt {r n : Nat} (h1 : 1 ≤ r) (h : r ≤ 1048576) (n1 : 1 ≤ n) (n2 : n ≤ 4000) (hk : (n - 1) / longN r + 1 ≤ 1000) : Ahe (r : Int) (n : Int) = some (framesL (longN r) n, 0) := by
 have hp := Ab0 r
 have hl := Awh h
 have hd := Nat.div_mul_le_self (n - 1) (longN r)
 rw [Ahe, Ao7 h1 h n1 n2, if_neg (by omega), Aa]
 simp only
 rw [if_neg (by rw [Am]; simp), Arb h1 h, Aa]
 simp only
 rw [framesL]
 generalize (n - 1) / longN r = k at *
 have e1 : Ak ((k + 1 : Nat) : Int) 1 = (k : Int) := by rw [Bg (by omega) (by omega)]; omega
 have e2 : (k : Int) * (longN r : Int) = ((k * longN r : Nat) : Int) := by simp
 rw [e1, Bi0 _ _ (by omega), Aa, Gz (by rw [e2]; omega) (by rw [e2]; omega), e2, Bg (by omega) (by omega), Afw, Bim _ _ (by simp; omega), Aa, Aa, show (n : Int) - ((k * longN r : Nat) : Int) = ((n - k * longN r : Nat) : Int) by omega]
end Go.Pl
set_option linter.unusedVariables false
set_option linter.unusedSimpArgs false
namespace Go.Pl
open Go Go.Lv
def shapeB (f c w r n : Nat) : Bool := decide ((f = 1 ∨ f = 2) ∧ (1 ≤ c ∧ c ≤ 6) ∧ (w = 8 ∨ w = 16 ∨ w = 24) ∧ (1 ≤ r ∧ r ≤ 1048576) ∧ 1 ≤ n)
def fitB (c r n : Nat) : Bool := decide (n ≤ 4000 / c ∧ (n - 1) / longN r + 1 ≤ 1000)
theorem Ase (f c w r n : Nat) : Wr (f : Int) (c : Int) (w : Int) (r : Int) (n : Int) = some (shapeB f c w r n) := by
 have e2 : Vb (f : Int) (c : Int) (w : Int) (r : Int) (n : Int) = some (decide ((f = 1 ∨ f = 2) ∧ (1 ≤ c ∧ c ≤ 6) ∧ (1 ≤ r ∧ r ≤ 1048576) ∧ 1 ≤ n)) := by
  rw [Vb, Aio]
  congr 1
  rw [Bool.eq_iff_iff]
  simp only [Cg, Bb, Axt, Bool.and_eq_true, Bool.or_eq_true, beq_iff_eq, decide_eq_true_eq]
  omega
 have g : ∀ k : Nat, geq (w : Int) (k : Int) = decide (w = k) := fun k => by rw [Cg, Bool.eq_iff_iff]; simp; omega
 have g8 : geq (w : Int) (8 : Int) = decide (w = 8) := g 8
 have g16 : geq (w : Int) (16 : Int) = decide (w = 16) := g 16
 have g24 : geq (w : Int) (24 : Int) = decide (w = 24) := g 24
 rw [Wr, Abo, e2, g8, g16, g24, shapeB]
 by_cases h8 : w = 8
 ·subst h8; simp
 ·by_cases h16 : w = 16
  ·subst h16; simp
  ·by_cases h24 : w = 24
   ·subst h24; simp
   ·simp [h8, h16, h24]
theorem Be9 (f c w r n : Nat) : Nq (f : Int) (c : Int) (w : Int) (r : Int) (n : Int) = some (shapeB f c w r n) := by
 rw [Nq, shapeB]
 simp only [Cg, Cz, Axt, Bool.and_eq_true, Bool.or_eq_true, beq_iff_eq, decide_eq_true_eq, Bool.false_and]
 split
 ·rename_i h
  congr 1
  rw [Bool.eq_iff_iff]
  simp only [Bool.and_eq_true, Bool.or_eq_true, beq_iff_eq, decide_eq_true_eq]
  omega
 ·rename_i h
  congr 1
  symm
  rw [decide_eq_false_iff_not]
  omega
theorem Bpr {c : Nat} (h : 1 ≤ c) : Cu (4000 : Int) (c : Int) = ((4000 / c : Nat) : Int) := by
 have : 4000 / c ≤ 4000 := Nat.div_le_self _ _
 rw [Adu, Int.tdiv_eq_ediv_of_nonneg (by omega), show (4000 : Int) = ((4000 : Nat) : Int) from rfl, ← Int.natCast_ediv]
 generalize 4000 / c = k at *
 exact Bt (by omega) (by omega)
theorem Ax0 {f c w r n : Nat} (h : shapeB f c w r n = true) : Acn (f : Int) (c : Int) (w : Int) (r : Int) (n : Int) = some (fitB c r n) := by
 simp only [shapeB, decide_eq_true_eq] at h
 have hd : 4000 / c ≤ 4000 := Nat.div_le_self _ _
 rw [Acn, Cm (by rw [Am]; simp; omega), Aa, Bpr (by omega), fitB]
 generalize 4000 / c = m at *
 by_cases h1 : n ≤ m
 ·rw [if_neg (by rw [Bb]; simp; omega), Ao7 (by omega) (by omega) (by omega) (by omega), Aa]
  generalize (n - 1) / longN r + 1 = k
  by_cases h2 : 1000 < k
  ·rw [if_pos h2]
   simp [Cg, Axt]
   omega
  ·rw [if_neg h2]
   simp [Cg, Axt, h1]
   omega
 ·rw [if_pos (by rw [Bb]; simp; omega)]
  simp [h1]
theorem Bk6 {f c w r n : Nat} (h : shapeB f c w r n = true) : Ib (f : Int) (c : Int) (w : Int) (r : Int) (n : Int) = some (!fitB c r n) := by
 simp only [shapeB, decide_eq_true_eq] at h
 have hd : 4000 / c ≤ 4000 := Nat.div_le_self _ _
 rw [Ib, Cm (by rw [Am]; simp; omega), Aa, Bpr (by omega), fitB]
 generalize 4000 / c = m at *
 by_cases h1 : n ≤ m
 ·rw [if_neg (by rw [Bb]; simp; omega), Apm (by omega) (by omega) (by omega), Aa, Ac, Adg]
  generalize (n - 1) / longN r + 1 = k
  congr 1
  rw [Bb, Bool.eq_iff_iff]
  simp only [decide_eq_true_eq, Bool.not_eq_true', decide_eq_false_iff_not]
  omega
 ·rw [if_pos (by rw [Bb]; simp; omega)]
  simp [h1]
def Aso : List UInt8 := [84, 84, 65, 49]
def f0 (b : List UInt8) : Nat := Dy (part b 4 2)
def f1 (b : List UInt8) : Nat := Dy (part b 6 2)
def f2 (b : List UInt8) : Nat := Dy (part b 8 2)
def f3 (b : List UInt8) : Nat := Dy (part b 10 4)
def f4 (b : List UInt8) : Nat := Dy (part b 14 4)
abbrev H6 := Int × Int × Int × Int × Int × Int
def Aak (b : List UInt8) : H6 :=
 if b.take (min 4 b.length) ≠ Aso.take (min 4 b.length) then (0, 0, 0, 0, 0, 12) else if b.length < 22 then (0, 0, 0, 0, 0, 24) else
 if (Gl (b.take 18)).toNat ≠ Dy (part b 18 4) then (0, 0, 0, 0, 0, 22) else
 if shapeB (f0 b) (f1 b) (f2 b) (f3 b) (f4 b) = false then (0, 0, 0, 0, 0, 12) else
 if fitB (f1 b) (f3 b) (f4 b) = false then (0, 0, 0, 0, 0, 4) else ((f0 b : Int), (f1 b : Int), (f2 b : Int), (f3 b : Int), (f4 b : Int), 0)
section
variable {b : List UInt8}
theorem rs1 (h : b.take (min 4 b.length) ≠ Aso.take (min 4 b.length)) : Aak b = (0, 0, 0, 0, 0, 12) := by rw [Aak, if_pos h]
variable (h : b.take (min 4 b.length) = Aso.take (min 4 b.length))
include h
theorem rs2 (h2 : b.length < 22) : Aak b = (0, 0, 0, 0, 0, 24) := by rw [Aak, if_neg (fun e => e h), if_pos h2]
variable (h2 : ¬ b.length < 22)
include h2
theorem rs3 (h3 : (Gl (b.take 18)).toNat ≠ Dy (part b 18 4)) : Aak b = (0, 0, 0, 0, 0, 22) := by rw [Aak, if_neg (fun e => e h), if_neg h2, if_pos h3]
variable (h3 : (Gl (b.take 18)).toNat = Dy (part b 18 4))
include h3
theorem rs4 (h4 : shapeB (f0 b) (f1 b) (f2 b) (f3 b) (f4 b) = false) : Aak b = (0, 0, 0, 0, 0, 12) := by rw [Aak, if_neg (fun e => e h), if_neg h2, if_neg (fun e => e h3), if_pos h4]
variable (h4 : shapeB (f0 b) (f1 b) (f2 b) (f3 b) (f4 b) = true)
include h4
theorem rs5 (h5 : fitB (f1 b) (f3 b) (f4 b) = false) : Aak b = (0, 0, 0, 0, 0, 4) := by rw [Aak, if_neg (fun e => e h), if_neg h2, if_neg (fun e => e h3), if_neg (by rw [h4]; simp), if_pos h5]
theorem rs6 (h5 : fitB (f1 b) (f3 b) (f4 b) = true) : Aak b = ((f0 b : Int), (f1 b : Int), (f2 b : Int), (f3 b : Int), (f4 b : Int), 0) := by rw [Aak, if_neg (fun e => e h), if_neg h2, if_neg (fun e => e h3), if_neg (by rw [h4]; simp), if_neg (by rw [h5]; simp)]
end
theorem Bkj (b : List UInt8) (h2 : ¬ b.length < 22) : Ct (Ad (Gl (b.take 18)) : UInt64) (leU (part b 18 4)) = decide ((Gl (b.take 18)).toNat ≠ Dy (part b 18 4)) := by
 rw [Aeq, Gv, Bool.eq_iff_iff]
 simp only [bne_iff_ne, ne_eq, decide_eq_true_eq]
 rw [← UInt64.toNat_inj, Ag3 (by have := (Gl (b.take 18)).toNat_lt; omega), Ag7 (by rw [Dc (by omega)]; omega)]
theorem Al2 (b : List UInt8) (a w : Nat) (i q : Nat) (l : List Int) (hi : i < 5) (hl : l.length = 5) (hw : getI ([2, 2, 2, 4, 4] : List Int) (i : Int) = some (w : Int)) (h1 : 1 ≤ w) (h4 : w ≤ 4) (ha : a + w ≤ b.length) (hb : b.length < 4611686018427387904) :
  Ke b (q + 1) (a : Int) (i : Int) l = Ke b q ((a + w : Nat) : Int) ((i + 1 : Nat) : Int) (l.set i (Dy (part b a w) : Int)) := by
 rw [Ke, Aam, if_pos (by rw [Af]; simp; omega), hw, Aa, Axw b a w h1 (by omega) ha hb, Aa]
 simp only
 rw [Ds (by omega), Aa, Vz _ (by omega), Aa, Acg (by rw [Dc ha]; omega), Ag (by omega) (by omega), Ag (by omega) (by omega)]
 rfl
theorem Bk9 (b : List UInt8) (h22 : ¬ b.length < 22) (hb : b.length < 4611686018427387904) : Zx b 4 0 (List.replicate 5 0) = Zc [(f0 b : Int), (f1 b : Int), (f2 b : Int), (f3 b : Int), (f4 b : Int)] := by
 have hF : Ba = (Ba - 6) + 1 + 1 + 1 + 1 + 1 + 1 := by have := Au; omega
 rw [Zx, hF, show (4 : Int) = ((4 : Nat) : Int) from rfl, show (0 : Int) = ((0 : Nat) : Int) from rfl]
 rw [Al2 b 4 2 0 _ _ (by omega) (by simp) rfl (by omega) (by omega) (by omega) hb, Al2 b 6 2 1 _ _ (by omega) (by simp) rfl (by omega) (by omega) (by omega) hb, Al2 b 8 2 2 _ _ (by omega) (by simp) rfl (by omega) (by omega) (by omega) hb,
  Al2 b 10 4 3 _ _ (by omega) (by simp) rfl (by omega) (by omega) (by omega) hb, Al2 b 14 4 4 _ _ (by omega) (by simp) rfl (by omega) (by omega) (by omega) hb, Ke, Aam, if_neg (by rw [Af]; simp)]
 rfl
theorem Bsw (b : List UInt8) : Te [84, 84, 65, 49] (b.take (min 4 b.length)) = some (decide (b.take (min 4 b.length) = Aso.take (min 4 b.length))) := by
 have hl : (b.take (min 4 b.length)).length = min 4 b.length := by rw [List.length_take]; omega
 rw [Te, Ho, if_pos (by rw [Cz, Ac, Ac, hl]; simp; omega), Ac, hl, Jm (by omega) (by simp; omega), Aa, Aa, Int.toNat_natCast]
 congr 1
 rw [Bool.eq_iff_iff]
 rw [decide_eq_true_eq, beq_iff_eq]
 exact eq_comm
theorem Bsm (b : List UInt8) : Gd (4 : Int) (Ac b) = ((min 4 b.length : Nat) : Int) := by rw [Ahu, Ac]; omega
theorem Bix (b : List UInt8) (hb : b.length < 4611686018427387904) : Agz b = some (Aak b) := by
 rw [Agz, Afz, Bsm, Jm (by omega) (by omega), Aa, Int.toNat_natCast, Bsw, Aa]
 by_cases h : b.take (min 4 b.length) = Aso.take (min 4 b.length)
 ·rw [if_neg (by simpa using h)]
  by_cases h2 : b.length < 22
  ·rw [if_pos (by rw [Af, Ac]; simp; omega), rs2 h h2]
  ·have a1 : Ai1 b 18 4 = some (leU (part b 18 4), 0) := Axw b 18 4 (by omega) (by omega) (by omega) hb
   rw [if_neg (by rw [Af, Ac]; simp; omega), a1, Aa]
   simp only
   rw [Jm (by omega) (by omega), Aa, show (18 : Int).toNat = 18 from rfl, Be4 _ (by simp; omega), Aa]
   simp only
   rw [Bkj b h2]
   by_cases h3 : (Gl (b.take 18)).toNat = Dy (part b 18 4)
   ·rw [if_neg (by simpa using h3), Bk9 b h2 hb, Zc, Aln]
    rw [show getI [(f0 b : Int), (f1 b : Int), (f2 b : Int), (f3 b : Int), (f4 b : Int)] 0 = some (f0 b : Int) from rfl, show getI [(f0 b : Int), (f1 b : Int), (f2 b : Int), (f3 b : Int), (f4 b : Int)] 1 = some (f1 b : Int) from rfl, show getI [(f0 b : Int), (f1 b : Int), (f2 b : Int), (f3 b : Int), (f4 b : Int)] 2 = some (f2 b : Int) from rfl,
     show getI [(f0 b : Int), (f1 b : Int), (f2 b : Int), (f3 b : Int), (f4 b : Int)] 3 = some (f3 b : Int) from rfl, show getI [(f0 b : Int), (f1 b : Int), (f2 b : Int), (f3 b : Int), (f4 b : Int)] 4 = some (f4 b : Int) from rfl]
    simp only [Aa, Ase]
    cases h4 : shapeB (f0 b) (f1 b) (f2 b) (f3 b) (f4 b) with
    | false => rw [rs4 h h2 h3 h4]; rfl
    | true =>
     rw [Ax0 h4, if_neg (by simp), Aa]
     cases h5 : fitB (f1 b) (f3 b) (f4 b) with
     | false => rw [rs5 h h2 h3 h4 h5]; rfl
     | true => rw [rs6 h h2 h3 h4 h5]; rfl
   ·rw [if_pos (by simpa using h3), rs3 h h2 h3]
 ·rw [if_pos (by simpa using h), rs1 h]
theorem Bmt (b : List UInt8) (hb : b.length < 4611686018427387904) : Td b = some (Aak b) := by
 rw [Td, Uy, Bsm, Jm (by omega) (by omega), Aa, Int.toNat_natCast, Jm (by omega) (by simp; omega), Aa, Int.toNat_natCast]
 by_cases h : b.take (min 4 b.length) = Aso.take (min 4 b.length)
 ·rw [if_neg (by rw [h]; simp [Aso]), Ub, Tp]
  by_cases h2 : b.length < 22
  ·rw [if_pos (by rw [Af, Ac]; simp; omega), rs2 h h2]
  ·have a1 : Ca b 18 22 = some (part b 18 4) := Mi 18 4 (by omega)
   have c1 : Ca b 4 6 = some (part b 4 2) := Mi 4 2 (by omega)
   have c2 : Ca b 6 8 = some (part b 6 2) := Mi 6 2 (by omega)
   have c3 : Ca b 8 10 = some (part b 8 2) := Mi 8 2 (by omega)
   have c4 : Ca b 10 14 = some (part b 10 4) := Mi 10 4 (by omega)
   have c5 : Ca b 14 18 = some (part b 14 4) := Mi 14 4 (by omega)
   have hs : Ct (leU (part b 18 4)) (Ad (Gl (b.take 18)) : UInt64) = decide ((Gl (b.take 18)).toNat ≠ Dy (part b 18 4)) := by
    rw [← Bkj b h2, Aeq, Aeq, Bool.eq_iff_iff]; simp only [bne_iff_ne, ne_eq]; exact not_congr eq_comm
   have lp : ∀ a w, a + w ≤ b.length → Aj (part b a w) = some (leU (part b a w)) := fun a w h => Ba3 _ (by rw [Dc h]; omega)
   rw [if_neg (by rw [Af, Ac]; simp; omega), a1, Aa, Jm (by omega) (by omega), Aa, show (18 : Int).toNat = 18 from rfl, lp _ _ (by omega), Aa, Bkf _ (by simp; omega), Aa, hs]
   by_cases h3 : (Gl (b.take 18)).toNat = Dy (part b 18 4)
   ·rw [if_neg (by simpa using h3), Ty, Ln, c1, Aa, c2, Aa, c3, Aa, c4, Aa, c5, Aa, lp _ _ (by omega), Aa, lp _ _ (by omega), Aa, lp _ _ (by omega), Aa, lp _ _ (by omega), Aa, lp _ _ (by omega), Aa,
     Tt, Acs, Acg (by rw [Dc (by omega)]; omega), Acg (by rw [Dc (by omega)]; omega), Acg (by rw [Dc (by omega)]; omega), Acg (by rw [Dc (by omega)]; omega), Acg (by rw [Dc (by omega)]; omega)]
    rw [show Dy (part b 4 2) = f0 b from rfl, show Dy (part b 6 2) = f1 b from rfl, show Dy (part b 8 2) = f2 b from rfl, show Dy (part b 10 4) = f3 b from rfl, show Dy (part b 14 4) = f4 b from rfl, Be9, Aa]
    cases h4 : shapeB (f0 b) (f1 b) (f2 b) (f3 b) (f4 b) with
    | false => rw [rs4 h h2 h3 h4]; rfl
    | true =>
     rw [Bk6 h4, if_neg (by simp), Aa]
     cases h5 : fitB (f1 b) (f3 b) (f4 b) with
     | false => rw [rs5 h h2 h3 h4 h5]; rfl
     | true => rw [rs6 h h2 h3 h4 h5]; rfl
   ·rw [if_pos (by simpa using h3), rs3 h h2 h3]
 ·rw [if_pos (by simpa [Aso] using h), rs1 h]
theorem Bma {b : List UInt8} (h : (Aak b).2.2.2.2.2 = 0) : Aak b = ((f0 b : Int), (f1 b : Int), (f2 b : Int), (f3 b : Int), (f4 b : Int), 0) ∧ 22 ≤ b.length ∧ shapeB (f0 b) (f1 b) (f2 b) (f3 b) (f4 b) = true ∧ fitB (f1 b) (f3 b) (f4 b) = true := by
 unfold Aak at h ⊢
 split at h; · simp at h
 rename_i c1; rw [if_neg c1]
 split at h; · simp at h
 rename_i c2; rw [if_neg c2]
 split at h; · simp at h
 rename_i c3; rw [if_neg c3]
 split at h; · simp at h
 rename_i c4; rw [if_neg c4]
 split at h; · simp at h
 rename_i c5; rw [if_neg c5]
 exact ⟨rfl, by omega, by simpa using c4, by simpa using c5⟩
theorem Arr {f c w r n : Nat} (h : shapeB f c w r n = true) (h2 : fitB c r n = true) : Wk (f : Int) (c : Int) (w : Int) (r : Int) (n : Int) = some (framesL (longN r) n, 0) := by
 have hc : Ae0 (f : Int) (c : Int) (w : Int) (r : Int) (n : Int) = some 0 := by
  rw [Ae0, Ase, Aa, h, if_neg (by simp), Ax0 h, Aa, h2]; rfl
 have hd : 4000 / c ≤ 4000 := Nat.div_le_self _ _
 simp only [shapeB, decide_eq_true_eq] at h
 simp only [fitB, decide_eq_true_eq] at h2
 rw [Wk, hc, Aa, if_neg (by rw [Am]; simp), Bkt (by omega) (by omega) (by omega) (by omega) h2.2]
 rfl
end Go.Pl
