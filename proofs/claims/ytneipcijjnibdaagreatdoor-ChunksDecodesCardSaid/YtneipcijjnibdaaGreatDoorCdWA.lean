/- A part of the proof of a statement of this seat (see the text that ends in Proof): LwBase, LwBitB, LwLe, LwBits, LwRef02, LwCut, LwUn, LwRice, LwDual, LwVal, LwI32, LwFil, LwUnm, LwSam, LwCrc, LwFrm, LwC64, LwWby, LwId, LwApe, LwStrip, LwLen, LwHead. No conditions of its own. -/
import Derived.Test.YtneipcijjnibdaaGreatDoorCdBA
import Derived.Test.YtneipcijjnibdaaGreatDoorCdPA
set_option linter.unusedVariables false
set_option linter.unusedSimpArgs false
namespace Go.Lv
theorem Ah {a b : Int} (h : -9223372036854775808 ≤ a + b) (h' : a + b ≤ 9223372036854775807) : Ae a b = a + b := by rw [Byw, Ce h h']
theorem Bh {a b : Int} (h : -9223372036854775808 ≤ a - b) (h' : a - b ≤ 9223372036854775807) : Al a b = a - b := by rw [Bxm, Ce h h']
theorem Ik {a b : Int} (h : -9223372036854775808 ≤ a * b) (h' : a * b ≤ 9223372036854775807) : Bq a b = a * b := by rw [Brv, Ce h h']
theorem Aj0 (c : UInt8) : (Ad c : Int) = (c.toNat : Int) := by rw [Bsx, Ce] <;> have := c.toNat_lt <;> omega
theorem Bkf (c : UInt32) : (Ad c : Int) = (c.toNat : Int) := by rw [Bo9, Ce] <;> have := c.toNat_lt <;> omega
theorem Auv (c : UInt8) : (Ad c : UInt64) = UInt64.ofNat c.toNat := by simp only [Ad, Ab9, Ho]
theorem Iy (c : UInt32) : (Ad c : UInt64) = UInt64.ofNat c.toNat := by simp only [Ad, Zv, Ho]
theorem Apl (c : UInt64) : (Ad c : UInt8) = UInt8.ofNat c.toNat := by simp only [Ad, Jb, Mt]
theorem Aup (c : UInt32) : (Ad c : UInt8) = UInt8.ofNat c.toNat := by simp only [Ad, Zv, Mt]
theorem Zs (n : Nat) : (Ad (n : Int) : UInt64) = UInt64.ofNat n := by simp only [Ad]; exact Ho n
theorem Bdj (n : Nat) : (Ad (n : Int) : UInt32) = UInt32.ofNat n := by simp only [Ad]; exact Dx n
theorem Br8 (n : Nat) : (Ad (n : Int) : UInt8) = UInt8.ofNat n := by simp only [Ad]; exact Mt n
theorem Awh {c : UInt64} (h : c.toNat < 9223372036854775808) : (Ad c : Int) = (c.toNat : Int) := by rw [Bps, Ce] <;> omega
theorem Bnz : LIM = 17179869184 := by decide
theorem Aq : 36893488147419103231 < Au := by decide
theorem Cq {α : Type} {l : List α} {n : Nat} (h : n < l.length) : Ak l (n : Int) = some l[n] := by simp [Ak, h]
theorem Aap {α : Type} {l : List α} {n : Nat} (x : α) (h : n < l.length) : Tp l (n : Int) x = some (l.set n x) := by simp [Tp, h]
theorem Aft {α : Type} {l : List α} {a b : Int} (h : 0 ≤ a) (h1 : a ≤ b) (h2 : b ≤ l.length) : Bc l a b = some ((l.take b.toNat).drop a.toNat) := by rw [Bc, if_pos ⟨h, h1, h2⟩]
theorem Cs {α : Type} {l : List α} {a : Int} (h : 0 ≤ a) (h1 : a ≤ l.length) : Bc l a (Ac l) = some (l.drop a.toNat) := by
 unfold Ac; rw [Aft h h1 (Int.le_refl _), Int.toNat_natCast, List.take_length]
theorem Dh {α : Type} {l : List α} {b : Int} (h : 0 ≤ b) (h1 : b ≤ l.length) : Bc l 0 b = some (l.take b.toNat) := by rw [Aft (Int.le_refl _) h h1]; rfl
theorem Ca {α : Type} {l m : List α} (h : l.length + m.length ≤ 17179869184) : Cv l m = some (l ++ m) := by rw [Cv, Bnz, if_pos h]
theorem Bap {α : Type} {n : Int} {z : α} (h : 0 ≤ n) (h' : n ≤ 17179869184) : mkI n z = some (List.replicate n.toNat z) := by rw [mkI, Bnz, if_pos ⟨h, h'⟩]
theorem Brm : Vf true = some () := rfl
theorem Cp {b : Bool} (h : b = true) : Vf b = some () := by rw [h]; rfl
theorem Aa {α β : Type} (a : α) (f : α → Option β) : Option.bind (some a) f = f a := rfl
theorem drop_cons {α : Type} {l : List α} {n : Nat} (h : n < l.length) : l.drop n = l[n] :: l.drop (n + 1) := List.drop_eq_getElem_cons h
theorem Aog {α : Type} {l : List α} {n : Nat} (h : n < l.length) : l.take (n + 1) = l.take n ++ [l[n]] := by rw [List.take_add_one, List.getElem?_eq_getElem h]; rfl
def Dy : List UInt8 → Nat
 | [] => 0
 | x :: r => x.toNat + 256 * Dy r
theorem Bfy : ∀ l : List UInt8, Dy l < 256 ^ l.length
 | [] => by simp [Dy]
 | x :: r => by
  have h := Bfy r
  have := x.toNat_lt
  simp only [Dy, List.length_cons, Nat.pow_succ]
  omega
theorem Bat : ∀ l m : List UInt8, Dy (l ++ m) = Dy l + 256 ^ l.length * Dy m
 | [], m => by simp [Dy]
 | x :: r, m => by
  simp only [Dy, List.cons_append, Bat r m, List.length_cons, Nat.pow_succ, Nat.mul_add]
  rw [Nat.mul_comm (256 ^ r.length) 256, Nat.mul_assoc]; omega
def leU (l : List UInt8) : UInt64 := UInt64.ofNat (Dy l)
theorem Bv5 {l : List UInt8} (h : l.length ≤ 8) : Dy l < 18446744073709551616 := by
 have h1 := Bfy l
 have h2 : 256 ^ l.length ≤ 256 ^ 8 := Nat.pow_le_pow_right (by omega) h
 exact Nat.lt_of_lt_of_le h1 (by simpa using h2)
theorem Bn0 {l : List UInt8} (h : l.length ≤ 4) : Dy l < 4294967296 := by
 have h1 := Bfy l
 have h2 : 256 ^ l.length ≤ 256 ^ 4 := Nat.pow_le_pow_right (by omega) h
 exact Nat.lt_of_lt_of_le h1 (by simpa using h2)
theorem Al2 {l : List UInt8} (h : l.length ≤ 8) : (leU l).toNat = Dy l := by
 rw [leU, UInt64.toNat_ofNat', Nat.mod_eq_of_lt (Bv5 h)]
theorem Agx {l : List UInt8} (h : l.length ≤ 4) : (Ad (leU l) : Int) = (Dy l : Int) := by
 have := Bn0 h
 rw [Awh] <;> rw [Al2 (by omega)]; omega
def leB (n : Nat) : Nat → List UInt8
 | 0 => []
 | w + 1 => UInt8.ofNat n :: leB (n / 256) w
theorem Ro : ∀ (w n : Nat), (leB n w).length = w
 | 0, _ => rfl
 | w + 1, n => by simp [leB, Ro w]
theorem Bjm : ∀ (w n : Nat), leB n (w + 1) = leB n w ++ [UInt8.ofNat (n / 256 ^ w)]
 | 0, n => by simp [leB]
 | w + 1, n => by
  rw [leB, Bjm w (n / 256), leB]
  simp [Nat.div_div_eq_div_mul, Nat.pow_succ, Nat.mul_comm]
end Go.Lv
set_option linter.unusedVariables false
set_option linter.unusedSimpArgs false
namespace Go.Lv
def Kr (p : List UInt8) (i : Nat) : Nat := (p.getD (i / 8) 0).toNat / 2 ^ (i % 8) % 2
theorem Abc (p : List UInt8) (i : Nat) : Kr p i < 2 := Nat.mod_lt _ (by omega)
def Cd (p : List UInt8) : Nat → Nat → Nat
 | _, 0 => 0
 | a, n + 1 => Kr p a + 2 * Cd p (a + 1) n
theorem Uj (p : List UInt8) : ∀ (n a : Nat), Cd p a n < 2 ^ n
 | 0, _ => by simp [Cd]
 | n + 1, a => by
  have := Uj p n (a + 1)
  have := Abc p a
  rw [Cd, Nat.pow_succ]; omega
theorem Akn (p : List UInt8) : ∀ (m n a : Nat), Cd p a (m + n) = Cd p a m + 2 ^ m * Cd p (a + m) n
 | 0, n, a => by simp [Cd]
 | m + 1, n, a => by
  rw [show m + 1 + n = (m + n) + 1 by omega, Cd, Cd, Akn p m n (a + 1), show a + 1 + m = a + (m + 1) by omega, Nat.pow_succ, Nat.mul_add, Nat.mul_comm (2 ^ m) 2, Nat.mul_assoc]; omega
theorem Bju (p : List UInt8) (a : Nat) : Cd p a 1 = Kr p a := by simp [Cd]
theorem Bc6 (p : List UInt8) (a n : Nat) : Cd p a (n + 1) = Cd p a n + 2 ^ n * Kr p (a + n) := by rw [Akn p n 1 a, Bju]
theorem Awj (p : List UInt8) (a : Nat) : ∀ t : Nat, a % 8 + t ≤ 8 → Cd p a t = (p.getD (a / 8) 0).toNat / 2 ^ (a % 8) % 2 ^ t
 | 0, _ => by simp [Cd, Nat.mod_one]
 | t + 1, h => by
  have h1 : (a + t) / 8 = a / 8 := by omega
  have h2 : (a + t) % 8 = a % 8 + t := by omega
  rw [Bc6, Awj p a t (by omega), Kr, h1, h2, Nat.mod_pow_succ, Nat.pow_add, Nat.div_div_eq_div_mul]
theorem Bc5 {p : List UInt8} : ∀ (n a : Nat), (∀ k, k < n → Kr p (a + k) = 0) → Cd p a n = 0
 | 0, _, _ => rfl
 | n + 1, a, h => by
  have h0 := h 0 (by omega)
  rw [Cd, Bc5 n (a + 1) fun k hk => by have := h (k + 1) (by omega); rwa [show a + 1 + k = a + (k + 1) by omega]]
  rw [Nat.add_zero] at h0; omega
def okB (p : List UInt8) (n : Nat) : Prop := n ≤ 330000 ∧ p.length = (n + 7) / 8 ∧ ∀ k, n ≤ k → k < 8 * p.length → Kr p k = 0
def Agb (p : List UInt8) (a n : Nat) : List UInt8 := (List.range ((n + 7) / 8)).map fun j => UInt8.ofNat (Cd p (a + 8 * j) (min 8 (n - 8 * j)))
theorem Qi (p : List UInt8) (a n : Nat) : (Agb p a n).length = (n + 7) / 8 := by simp [Agb]
theorem Bg0 (p : List UInt8) : ∀ (n a k : Nat), k < n → Cd p a n / 2 ^ k % 2 = Kr p (a + k)
 | n + 1, a, 0, _ => by have := Abc p a; rw [Cd]; simp; omega
 | n + 1, a, k + 1, h => by
  have hb := Abc p a
  have e : (Kr p a + 2 * Cd p (a + 1) n) / 2 = Cd p (a + 1) n := by omega
  rw [Cd, Nat.pow_succ, Nat.mul_comm (2 ^ k) 2, ← Nat.div_div_eq_div_mul, e, Bg0 p n (a + 1) k (by omega), show a + 1 + k = a + (k + 1) by omega]
theorem Boq (p : List UInt8) (n a k : Nat) (h : n ≤ k) : Cd p a n / 2 ^ k % 2 = 0 := by
 have := Uj p n a
 rw [Nat.div_eq_of_lt (Nat.lt_of_lt_of_le this (Nat.pow_le_pow_right (by omega) h))]
theorem Bs4 (p : List UInt8) (a n k : Nat) : Kr (Agb p a n) k = if k < n then Kr p (a + k) else 0 := by
 rw [Kr]
 by_cases hj : k / 8 < (n + 7) / 8
 ·have e : (Agb p a n).getD (k / 8) 0 = UInt8.ofNat (Cd p (a + 8 * (k / 8)) (min 8 (n - 8 * (k / 8)))) := by
   rw [List.getD_eq_getElem?_getD, List.getElem?_eq_getElem (by rw [Qi]; exact hj)]; simp [Agb]
  have hlt : Cd p (a + 8 * (k / 8)) (min 8 (n - 8 * (k / 8))) < 256 := by
   have := Uj p (min 8 (n - 8 * (k / 8))) (a + 8 * (k / 8))
   have h2 : 2 ^ (min 8 (n - 8 * (k / 8))) ≤ 2 ^ 8 := Nat.pow_le_pow_right (by omega) (by omega)
   omega
  have hu : (UInt8.ofNat (Cd p (a + 8 * (k / 8)) (min 8 (n - 8 * (k / 8))))).toNat = Cd p (a + 8 * (k / 8)) (min 8 (n - 8 * (k / 8))) := by
   rw [UInt8.toNat_ofNat']; exact Nat.mod_eq_of_lt hlt
  rw [e, hu]
  by_cases hk : k < n
  ·rw [if_pos hk, Bg0 p _ _ _ (by omega), show a + 8 * (k / 8) + k % 8 = a + k by omega]
  ·rw [if_neg hk, Boq p _ _ _ (by omega)]
 ·have e : (Agb p a n).getD (k / 8) 0 = 0 := by
   rw [List.getD_eq_getElem?_getD, List.getElem?_eq_none (by rw [Qi]; omega)]; rfl
  rw [e, if_neg (by omega)]; simp
theorem Bmg (p : List UInt8) (a n : Nat) (h : n ≤ 330000) : okB (Agb p a n) n := ⟨h, Qi p a n, fun k hk _ => by rw [Bs4, if_neg (by omega)]⟩
end Go.Lv
set_option linter.unusedVariables false
set_option linter.unusedSimpArgs false
namespace Go.Pl
open Go Go.Lv
theorem Bqw (b : List UInt8) (hb : b.length < 4611686018427387904) : ∀ (j q : Nat), j ≤ b.length → j < q → Jn b q (leU (b.drop j)) ((j : Int) - 1) = some (leU b)
 | 0, q + 1, _, _ => by
  rw [Jn, Ur, if_neg (by rw [Dt]; simp)]
  simp [Ab2, Aka]
 | j + 1, q + 1, hj, hq => by
  rw [Jn, Ur, if_pos (by rw [Dt]; simp), show ((j + 1 : Nat) : Int) - 1 = (j : Int) by omega, Cq (by omega), Aa, Bh (by omega) (by omega)]
  have h : Ae (Bq (256 : UInt64) (leU (b.drop (j + 1)))) (Ad b[j] : UInt64) = leU (b.drop j) := by
   rw [Ag8, Ag7, Auv, drop_cons (n := j) (by omega), leU, leU, Dy, UInt64.ofNat_add, UInt64.ofNat_mul]
   exact UInt64.add_comm _ _
  rw [h]
  exact Bqw b hb j q (by omega) (by omega)
theorem Bh7 (b : List UInt8) (hb : b.length < 4611686018427387904) : Ao b = some (leU b) := by
 have h := Bqw b hb b.length Au (Nat.le_refl _) (by have := Aq; omega)
 rw [Ao, Ab0, Abu]
 have e : Al (Ac b) 1 = (b.length : Int) - 1 := Bh (by unfold Ac; omega) (by unfold Ac; omega)
 rw [e, ← h, List.drop_length]; rfl
theorem Btn {n c : UInt64} {i : Nat} (hn : n.toNat < 2 ^ i) (hc : c.toNat * 2 ^ i < 18446744073709551616) : gor n (Eh c i) = UInt64.ofNat (n.toNat + c.toNat * 2 ^ i) := by
 rw [Bue]; apply UInt64.toNat_inj.1
 rw [UInt64.toNat_or, Anj, Nat.mod_eq_of_lt hc, Nat.mul_comm, Nat.or_comm, ← Nat.two_pow_add_eq_or_of_lt hn, UInt64.toNat_ofNat', Nat.mod_eq_of_lt, Nat.add_comm, Nat.mul_comm]
 have h := Nat.two_pow_add_eq_or_of_lt hn c.toNat
 have h2 : 2 ^ i * c.toNat + n.toNat < 2 ^ 64 := by
  rw [h]
  exact Nat.or_lt_two_pow (by rw [Nat.mul_comm]; simpa using hc) n.toNat_lt
 rw [Nat.add_comm]; first | exact h2 | (rw [Nat.mul_comm]; exact h2)
theorem Bdc (b : List UInt8) (hb : b.length ≤ 8) : ∀ (j i q : Nat), i + j = b.length → j < q → Ach b q (leU (b.take i)) (i : Int) = some (leU b, 0)
 | 0, i, q + 1, hi, _ => by
  rw [Ach, Alw, if_neg (by rw [Af, Ac]; simp; omega), show i = b.length by omega, List.take_length]; rfl
 | j + 1, i, q + 1, hi, hq => by
  have hlt : i < b.length := by omega
  rw [Ach, Alw, if_pos (by rw [Af, Ac]; simp; omega), Cq hlt, Aa, Ik (by omega) (by omega), Cp (by rw [Dt]; simp; omega), Aa, Ah (by omega) (by omega)]
  have h : gor (leU (b.take i)) (Eh (Ad b[i] : UInt64) (GI.toZ ((8 : Int) * (i : Int))).toNat) = leU (b.take (i + 1)) := by
   have e : (GI.toZ ((8 : Int) * (i : Int))).toNat = 8 * i := by show ((8 : Int) * (i : Int)).toNat = _; omega
   have e2 : (2 : Nat) ^ (8 * i) = 256 ^ i := by rw [Nat.pow_mul]
   have h1 := Bfy (b.take i)
   rw [List.length_take, Nat.min_eq_left (by omega)] at h1
   have h3 := b[i].toNat_lt
   have hle : (256 : Nat) ^ (i + 1) ≤ 256 ^ 8 := Nat.pow_le_pow_right (by omega) (by omega)
   rw [Nat.pow_succ] at hle
   have h4 : (Ad b[i] : UInt64).toNat = b[i].toNat := by rw [Auv, UInt64.toNat_ofNat']; omega
   have h5 : b[i].toNat * 256 ^ i < 18446744073709551616 := by
    have : b[i].toNat * 256 ^ i < 256 * 256 ^ i := Nat.mul_lt_mul_of_pos_right (by simpa using h3) (Nat.pow_pos (by omega))
    simp at hle; omega
   rw [e, Btn (by rw [Al2 (by simp; omega), e2]; exact h1) (by rw [h4, e2]; exact h5), Al2 (by simp; omega), h4, e2, Aog hlt]
   rw [leU, Bat]
   simp only [Dy, List.length_take, Nat.min_eq_left (Nat.le_of_lt hlt), Nat.mul_zero, Nat.add_zero]
   rw [Nat.mul_comm]
  rw [h]
  exact Bdc b hb j (i + 1) q (by omega) (by omega)
theorem Bjd (b : List UInt8) (h1 : 1 ≤ b.length) (h2 : b.length ≤ 8) : Arb b = some (leU b, 0) := by
 have h := Bdc b h2 b.length 0 Au (by omega) (by have := Aq; omega)
 rw [Arb, Arz, if_neg (by simp [Af, As, Ac]; omega), Ari]
 exact h
def part (b : List UInt8) (at' w : Nat) : List UInt8 := (b.take (at' + w)).drop at'
theorem Cy {b : List UInt8} {a w : Nat} (h : a + w ≤ b.length) : (part b a w).length = w := by simp [part]; omega
theorem Beq (b : List UInt8) (a w : Nat) (h1 : 1 ≤ w) (h2 : w ≤ 8) (h3 : a + w ≤ b.length) (hb : b.length < 4611686018427387904) : Ans b (a : Int) (w : Int) = some (leU (part b a w), 0) := by
 rw [Ans, if_neg (by simp [Af, As]; omega), if_neg (by rw [As, Bh (by unfold Ac; omega) (by unfold Ac; omega), Ac]; simp; omega), Ah (by omega) (by omega), Aft (by omega) (by omega) (by omega), Aa]
 rw [show ((a : Int) + (w : Int)).toNat = a + w by omega, show (a : Int).toNat = a by omega]
 rw [Bjd _ (by rw [show ((b.take (a + w)).drop a).length = _ from Cy h3]; exact h1) (by rw [show ((b.take (a + w)).drop a).length = _ from Cy h3]; exact h2), Aa]; rfl
theorem Axr (w : Nat) (hw : w ≤ 1000) : ∀ (j i q : Nat) (n : UInt64) (acc : List UInt8), i + j = w → j < q → acc.length + j ≤ 1000000 → Ei (w : Int) q n (i : Int) acc = some (acc ++ leB n.toNat j)
 | 0, i, q + 1, n, acc, hi, _, _ => by
  rw [Ei, Kj, if_neg (by rw [Af]; simp; omega)]
  simp [Th, Acq, leB]
 | j + 1, i, q + 1, n, acc, hi, hq, ha => by
  rw [Ei, Kj, if_pos (by rw [Af]; simp; omega)]
  have e : (Ad (Abv n (256 : UInt64)) : UInt8) = UInt8.ofNat n.toNat := by
   rw [Apl, Bcj]; apply UInt8.toNat_inj.1
   rw [UInt8.toNat_ofNat', UInt8.toNat_ofNat', UInt64.toNat_mod]
   show n.toNat % 256 % 256 = _
   omega
  have e2 : (Cn n (256 : UInt64)).toNat = n.toNat / 256 := by rw [Arp, UInt64.toNat_div]; rfl
  rw [Ca (by simp; omega), Aa, Ah (by omega) (by omega), e]
  have h := Axr w hw j (i + 1) q (Cn n 256) (acc ++ [UInt8.ofNat n.toNat]) (by omega) (by omega) (by simp; omega)
  rw [e2] at h
  rw [show ((i : Int) + 1) = ((i + 1 : Nat) : Int) by omega, h, leB]; simp
theorem Azr (n : UInt64) (w : Nat) (hw : w ≤ 1000) : Ct n (w : Int) = some (leB n.toNat w) := by
 rw [Ct, So, Sa]
 have h := Axr w hw w 0 Au n [] (by omega) (by have := Aq; omega) (by simp; omega)
 simpa using h
theorem As5 {α : Type} {l m : List α} {x y : α} {i : Nat} (h : l.length = i) : (l ++ x :: m).set i y = l ++ y :: m := by subst h; simp
theorem Bep (n : UInt64) (l4 : List UInt8) (w : Nat) (hl : l4.length = w) (hw : w ≤ 8) : ∀ (j i q : Nat), i + j = w → j < q → Aco n l4 q (i : Int) (leB n.toNat i ++ List.replicate j 0) = some (leB n.toNat w, 0)
 | 0, i, q + 1, hi, _ => by
  rw [Aco, Al9, if_neg (by rw [Af, Ac]; simp; omega)]
  obtain rfl : i = w := by omega
  simp [Ar9, Ax7]
 | j + 1, i, q + 1, hi, hq => by
  have hlen : (leB n.toNat i ++ List.replicate (j + 1) 0).length = i + (j + 1) := by simp [Ro]
  rw [Aco, Al9, if_pos (by rw [Af, Ac]; simp; omega), Ik (by omega) (by omega), Cp (by rw [Dt]; simp; omega), Aa, Cq (by rw [hlen]; omega), Aa, Aap _ (by rw [hlen]; omega), Aa, Ah (by omega) (by omega)]
  have e : (Ad (Ci n (GI.toZ ((8 : Int) * (i : Int))).toNat) : UInt8) = UInt8.ofNat (n.toNat / 256 ^ i) := by
   have e : (GI.toZ ((8 : Int) * (i : Int))).toNat = 8 * i := by show ((8 : Int) * (i : Int)).toNat = _; omega
   rw [e, Apl, Aei, Nat.pow_mul]
  rw [e, List.replicate_succ, As5 (Ro _ _)]
  have h := Bep n l4 w hl hw j (i + 1) q (by omega) (by omega)
  rw [Bjm] at h
  simpa using h
theorem Bud (n : UInt64) (w : Nat) (h1 : 1 ≤ w) (h2 : w ≤ 8) (h : n.toNat < 256 ^ w) : Ay6 n (w : Int) = some true := by
 rw [Ay6]
 by_cases h8 : w = 8
 ·subst h8; rw [if_pos (by rw [Ba]; rfl)]
 ·rw [if_neg (by rw [Ba]; simp; omega), Ik (by omega) (by omega), Cp (by rw [Dt]; simp; omega), Aa]
  have e : (GI.toZ ((8 : Int) * (w : Int))).toNat = 8 * w := by show ((8 : Int) * (w : Int)).toNat = _; omega
  rw [e, As3]
  have : Ci n (8 * w) = 0 := by
   apply UInt64.toNat_inj.1
   rw [Aei, Nat.pow_mul]
   exact Nat.div_eq_of_lt h
  rw [this]; rfl
theorem Bjx (n : UInt64) (w : Nat) (h1 : 1 ≤ w) (h2 : w ≤ 8) (h : n.toNat < 256 ^ w) : Asj n (w : Int) = some (leB n.toNat w, 0) := by
 rw [Asj, Ark, if_neg (by simp [Af, As]; omega), Bud n w h1 h2 h, Aa, if_neg (by simp), Bap (by omega) (by omega), Aa, Cp (by rw [Ba]; simp), Aa, Aqy]
 have h := Bep n (List.replicate (w : Int).toNat 0) w (by simp) h2 w 0 Au (by omega) (by have := Aq; omega)
 simpa [leB] using h
end Go.Pl
set_option linter.unusedVariables false
set_option linter.unusedSimpArgs false
namespace Go.Pl
open Go Go.Lv
theorem Biz (n : Nat) (h : n < 4611686018427387904) : Hr (n : Int) (7 : Int) = ((n % 8 : Nat) : Int) := by
 have e : Hr (n : Int) (7 : Int) = wrap64 ((BitVec.ofInt 64 (n : Int) &&& BitVec.ofInt 64 7).toNat : Int) := rfl
 rw [e, BitVec.toNat_and, BitVec.toNat_ofInt, BitVec.toNat_ofInt]
 have h1 : ((n : Int) % ((2 ^ 64 : Nat) : Int)).toNat = n := by omega
 have h2 : ((7 : Int) % ((2 ^ 64 : Nat) : Int)).toNat = 2 ^ 3 - 1 := by decide
 rw [h1, h2, Nat.and_two_pow_sub_one_eq_mod, Ce (by omega) (by omega)]
theorem Caa (n : Nat) : Aym (n : Int) (GI.toZ (3 : UInt64)).toNat = ((n / 8 : Nat) : Int) := by
 have e : Aym (n : Int) (GI.toZ (3 : UInt64)).toNat = (n : Int).fdiv 8 := rfl
 rw [e, Int.fdiv_eq_ediv_of_nonneg _ (by omega)]; omega
theorem Bzo {t : Nat} (h : t ≤ 8) : Al (Eh (1 : UInt8) t) (1 : UInt8) = UInt8.ofNat (2 ^ t - 1) := by
 have : t = 0 ∨ t = 1 ∨ t = 2 ∨ t = 3 ∨ t = 4 ∨ t = 5 ∨ t = 6 ∨ t = 7 ∨ t = 8 := by omega
 rcases this with rfl | rfl | rfl | rfl | rfl | rfl | rfl | rfl | rfl <;> decide
theorem bitsOf (c : UInt8) (off t : Nat) (h : t ≤ 8) : (Hr (Ci c off) (Al (Eh (1 : UInt8) t) (1 : UInt8))).toNat = c.toNat / 2 ^ off % 2 ^ t := by
 have hp : 2 ^ t ≤ 2 ^ 8 := Nat.pow_le_pow_right (by omega) h
 rw [Bzo h, Buj, UInt8.toNat_and, Bnq, UInt8.toNat_ofNat', Nat.mod_eq_of_lt (by have := Nat.pow_pos (n := t) (show 0 < 2 by omega); omega), Nat.and_two_pow_sub_one_eq_mod]
theorem Bb1 {p : List UInt8} {k : Nat} (h : k < p.length) : Ak p (k : Int) = some (p.getD k 0) := by
 rw [Cq h]; simp [List.getD_eq_getElem?_getD, h]
def Ym (p : List UInt8) (a n : Nat) : UInt64 := UInt64.ofNat (Cd p a n)
theorem Adf (p : List UInt8) (a n : Nat) (h : n ≤ 64) : (Ym p a n).toNat = Cd p a n := by
 have h1 := Uj p n a
 have h2 : 2 ^ n ≤ 2 ^ 64 := Nat.pow_le_pow_right (by omega) h
 rw [Ym, UInt64.toNat_ofNat', Nat.mod_eq_of_lt (by omega)]
theorem Bhg (p : List UInt8) (N : Int) (a n : Nat) (hn : n ≤ 64) (ha : a + n ≤ 8 * p.length) (hp : p.length ≤ 1000000) : ∀ (j h q : Nat), h + j = n → j < q → Ah0 (a : Int) (n : Int) p N q (Ym p a h) (h : Int) = some (Ym p a n)
 | j, h, q + 1, hj, hq => by
  rw [Ah0, Arm]
  by_cases hlt : h < n
  ·have e1 : Ae (a : Int) (h : Int) = ((a + h : Nat) : Int) := by rw [Ah (by omega) (by omega)]; omega
   have e2 : Hq (Al (n : Int) (h : Int)) (Al (8 : Int) (((a + h) % 8 : Nat) : Int)) = ((min (n - h) (8 - (a + h) % 8) : Nat) : Int) := by
    rw [Amq, Bh (by omega) (by omega), Bh (by omega) (by omega)]; omega
   have hm : (a + h) / 8 < p.length := by omega
   rw [if_pos (by rw [Af]; simp; omega), e1, Caa, Bb1 hm, Aa, Biz _ (by omega), Cp (by rw [Dt]; simp; omega), Aa, e2, Cp (by rw [Dt]; simp), Aa, Cp (by rw [Dt]; simp), Aa]
   generalize hT : min (n - h) (8 - (a + h) % 8) = T
   have hT8 : T ≤ 8 := by omega
   have hT1 : 1 ≤ T := by omega
   have hb : (a + h) % 8 + T ≤ 8 := by omega
   have hv := Awj p (a + h) T hb
   have z1 : (GI.toZ (((a + h) % 8 : Nat) : Int)).toNat = (a + h) % 8 := rfl
   have z2 : (GI.toZ ((T : Nat) : Int)).toNat = T := rfl
   have z3 : (GI.toZ ((h : Nat) : Int)).toNat = h := rfl
   rw [z1, z2, z3]
   have hx : (Ad (Hr (Ci (p.getD ((a + h) / 8) 0) ((a + h) % 8)) (Al (Eh (1 : UInt8) T) (1 : UInt8))) : UInt64).toNat = Cd p (a + h) T := by
    rw [Auv, UInt64.toNat_ofNat', bitsOf _ _ _ hT8, ← hv]
    have := Uj p T (a + h)
    have h2 : 2 ^ T ≤ 2 ^ 8 := Nat.pow_le_pow_right (by omega) hT8
    omega
   have hlt2 := Uj p (h + T) a
   rw [Akn] at hlt2
   have h64 : 2 ^ (h + T) ≤ 2 ^ 64 := Nat.pow_le_pow_right (by omega) (by omega)
   have hor : gor (Ym p a h) (Eh (Ad (Hr (Ci (p.getD ((a + h) / 8) 0) ((a + h) % 8)) (Al (Eh (1 : UInt8) T) (1 : UInt8))) : UInt64) h) = Ym p a (h + T) := by
    rw [Btn (by rw [Adf p a h (by omega)]; exact Uj p h a) (by rw [hx, Nat.mul_comm]; omega), hx, Adf p a h (by omega), Ym, Akn, Nat.mul_comm (2 ^ h)]
   rw [hor, Ah (by omega) (by omega), show (h : Int) + ((T : Nat) : Int) = ((h + T : Nat) : Int) by omega]
   exact Bhg p N a n hn ha hp (j - T) (h + T) q (by omega) (by omega)
  ·rw [if_neg (by rw [Af]; simp; omega), show h = n by omega]; rfl
theorem get_eq (p : List UInt8) (N : Int) (a n : Nat) (hn : n ≤ 64) (ha : a + n ≤ 8 * p.length) (hp : p.length ≤ 1000000) : Awe p N (a : Int) (n : Int) = some (Ym p a n) := by
 have := Bhg p N a n hn ha hp n 0 Au (by omega) (by have := Aq; omega)
 exact this
theorem Ajx {p : List UInt8} {n : Nat} (h : okB p n) : Va p (n : Int) = some 0 := by
 obtain ⟨h1, h2, h3⟩ := h
 have e7 : Ae (n : Int) 7 = ((n + 7 : Nat) : Int) := by rw [Ah (by omega) (by omega)]; omega
 rw [Va, e7, Caa, if_neg (by simp [Af, As, Am, Ac, h2]; omega), Biz _ (by omega)]
 by_cases hz : n % 8 = 0
 ·rw [if_neg (by rw [As]; simp; omega)]
 ·have el : Al (Ac p) 1 = ((p.length - 1 : Nat) : Int) := by rw [Ac, Bh (by omega) (by omega)]; omega
  rw [if_pos (by rw [As]; simp; omega), el, Bb1 (by omega), Aa, Cp (by rw [Dt]; simp; omega), Aa]
  have z : (GI.toZ ((n % 8 : Nat) : Int)).toNat = n % 8 := rfl
  have hs : Ci (p.getD (p.length - 1) 0) (n % 8) = 0 := by
   apply UInt8.toNat_inj.1
   rw [Bnq]
   have hv := Awj p n (8 - n % 8) (by omega)
   have h0 : Cd p n (8 - n % 8) = 0 := Bc5 _ _ fun k hk => h3 _ (by omega) (by omega)
   rw [h0, show n / 8 = p.length - 1 by omega] at hv
   have hlt : (p.getD (p.length - 1) 0).toNat / 2 ^ (n % 8) < 2 ^ (8 - n % 8) := by
    have := (p.getD (p.length - 1) 0).toNat_lt
    rw [Nat.div_lt_iff_lt_mul (Nat.pow_pos (by omega)), ← Nat.pow_add, show 8 - n % 8 + n % 8 = 8 by omega]; simpa using this
   rw [Nat.mod_eq_of_lt hlt] at hv
   exact hv.symm
  rw [z, hs, if_neg (by rw [Blj]; simp)]
theorem Aws {p : List UInt8} {N : Nat} (h : okB p N) (a n : Nat) (hn : n ≤ 64) : Adt p (N : Int) (a : Int) (n : Int) = some (if N < a + n then (0, 24) else (Ym p a n, 0)) := by
 obtain ⟨h1, h2, h3⟩ := h
 rw [Adt, Ajx ⟨h1, h2, h3⟩, Aa, if_neg (by rw [Am]; simp), if_neg (by simp [Af, As]; omega), Bh (by omega) (by omega)]
 by_cases hl : N < a + n
 ·rw [if_pos (by rw [As]; simp; omega), if_pos hl]
 ·rw [if_neg (by rw [As]; simp; omega), get_eq p N a n hn (by omega) (by omega), Aa, if_neg hl]
end Go.Pl
set_option linter.unusedVariables false
set_option linter.unusedSimpArgs false
namespace Go.Pl
open Go Go.Lv
theorem Cao (c : Nat) (h : c < 4611686018427387904) : Cn (c : Int) (2 : Int) = ((c / 2 : Nat) : Int) := by
 rw [Aij, Int.tdiv_eq_ediv_of_nonneg (by omega), Ce (by omega) (by omega)]; omega
theorem By7 (c : Nat) (h : c < 4611686018427387904) : Cn (c : Int) (8 : Int) = ((c / 8 : Nat) : Int) := by
 rw [Aij, Int.tdiv_eq_ediv_of_nonneg (by omega), Ce (by omega) (by omega)]; omega
theorem Bqn (c : Nat) : Ig (c : Int) (8 : Int) = ((c % 8 : Nat) : Int) := by rw [Ig, Int.tmod_eq_emod_of_nonneg (by omega)]; omega
theorem Caq (c : Nat) : Ig (c : Int) (2 : Int) = ((c % 2 : Nat) : Int) := by rw [Ig, Int.tmod_eq_emod_of_nonneg (by omega)]; omega
theorem Bmk (i c : Nat) (hc : c < 256) : ∀ (j k q : Nat), k + j = i % 8 → j < q → Jp (i : Int) q ((c / 2 ^ k : Nat) : Int) (k : Int) = some (((c / 2 ^ (i % 8) % 2 : Nat) : Int))
 | 0, k, q + 1, hk, _ => by
  rw [Jp, Uu, Bqn, if_neg (by rw [Af]; simp; omega), Abx, Ald, Caq, show k = i % 8 by omega]
 | j + 1, k, q + 1, hk, hq => by
  have hle : c / 2 ^ k ≤ c := Nat.div_le_self _ _
  rw [Jp, Uu, Bqn, if_pos (by rw [Af]; simp; omega), Cao _ (by omega), Ah (by omega) (by omega), Nat.div_div_eq_div_mul, ← Nat.pow_succ]
  exact Bmk i c hc j (k + 1) q (by omega) (by omega)
theorem Axd (p : List UInt8) (N : Int) (i : Nat) (h : i / 8 < p.length) (hi : i < 4611686018427387904) : Iz p N (i : Int) = some ((Kr p i : Nat) : Int) := by
 have hc := (p.getD (i / 8) 0).toNat_lt
 have := Bmk i (p.getD (i / 8) 0).toNat (by simpa using hc) (i % 8) 0 Au (by omega) (by have := Aq; omega)
 rw [Iz, Ab3, By7 _ hi, Bb1 h, Aa, Aj0, Abw]
 simpa [Kr] using this
theorem Ba9 (p : List UInt8) (N : Int) (a n : Nat) (ha : a + n ≤ 8 * p.length) (hp : p.length ≤ 1000000) : ∀ (j q : Nat), j ≤ n → j < q → Gl (a : Int) p N q (Ym p (a + j) (n - j)) ((j : Int) - 1) = some (Ym p a n)
 | 0, q + 1, _, _ => by
  rw [Gl, Ni, if_neg (by rw [Dt]; simp)]; rfl
 | j + 1, q + 1, hj, hq => by
  have hb := Abc p (a + j)
  rw [Gl, Ni, show ((j + 1 : Nat) : Int) - 1 = (j : Int) by omega, if_pos (by rw [Dt]; simp), Ah (a := (a : Int)) (by omega) (by omega), show (a : Int) + (j : Int) = ((a + j : Nat) : Int) by omega, Axd p N (a + j) (by omega) (by omega), Aa, Bh (by omega) (by omega)]
  have e : Ae (Bq (2 : UInt64) (Ym p (a + (j + 1)) (n - (j + 1)))) (Ad ((Kr p (a + j) : Nat) : Int) : UInt64) = Ym p (a + j) (n - j) := by
   rw [Ag8, Ag7, Zs, Ym, Ym, show n - j = (n - (j + 1)) + 1 by omega, Cd, show a + j + 1 = a + (j + 1) by omega, UInt64.ofNat_add, UInt64.ofNat_mul]
   exact UInt64.add_comm _ _
  rw [e]
  exact Ba9 p N a n ha hp j q (by omega) (by omega)
theorem Aut (p : List UInt8) (N : Int) (a n : Nat) (ha : a + n ≤ 8 * p.length) (hp : p.length ≤ 1000000) : Nc p N (a : Int) (n : Int) = some (Ym p a n) := by
 have := Ba9 p N a n ha hp n Au (Nat.le_refl _) (by have := Aq; omega)
 have hz : Ym p (a + n) (n - n) = 0 := by rw [Nat.sub_self]; rfl
 rw [hz] at this
 rw [Nc, Xa, Wc, Bh (by omega) (by omega)]
 exact this
theorem Bnd (bit : Int) (N : Nat) (l : List UInt8) : ∀ (j k q : Nat), k + j = N % 8 → j < q → Ip bit (N : Int) l q ((2 ^ k : Nat) : Int) (k : Int) = Rg bit ((2 ^ (N % 8) : Nat) : Int) (N : Int) l
 | 0, k, q + 1, hk, _ => by
  rw [Ip, Rt, Bqn, if_neg (by rw [Af]; simp; omega), show k = N % 8 by omega]
 | j + 1, k, q + 1, hk, hq => by
  have hp : 2 ^ k ≤ 2 ^ 8 := Nat.pow_le_pow_right (by omega) (by omega)
  have e : Bq ((2 ^ k : Nat) : Int) 2 = ((2 ^ (k + 1) : Nat) : Int) := by
   rw [Nat.pow_succ]
   generalize 2 ^ k = K at *
   rw [Ik (by omega) (by omega)]; omega
  rw [Ip, Rt, Bqn, if_pos (by rw [Af]; simp; omega), e, Ah (by omega) (by omega)]
  exact Bnd bit N l j (k + 1) q (by omega) (by omega)
theorem Bb3 (p : List UInt8) (a n j : Nat) (h : j < (n + 7) / 8) : (Agb p a n)[j]'(by rw [Qi]; exact h) = UInt8.ofNat (Cd p (a + 8 * j) (min 8 (n - 8 * j))) := by simp [Agb]
theorem Bgx (p : List UInt8) (a t : Nat) (h : t ≤ 8) : Cd p a t < 256 := by
 have h1 := Uj p t a
 have h2 : 2 ^ t ≤ 2 ^ 8 := Nat.pow_le_pow_right (by omega) h
 omega
def room (p : List UInt8) (a n : Nat) : List UInt8 := if n % 8 = 0 then Agb p a n ++ [0] else Agb p a n
theorem Aba (p : List UInt8) (a n : Nat) : (room p a n).length = n / 8 + 1 := by
 rw [room]; split <;> simp [Qi] <;> omega
theorem Bid (p : List UInt8) (a n j : Nat) (h : j < n / 8 + 1) : (room p a n)[j]'(by rw [Aba]; exact h) = UInt8.ofNat (Cd p (a + 8 * j) (min 8 (n - 8 * j))) := by
 have h0 : (room p a n)[j]? = some (UInt8.ofNat (Cd p (a + 8 * j) (min 8 (n - 8 * j)))) := by
  rw [room]
  split
  ·by_cases hj : j < (n + 7) / 8
   ·rw [List.getElem?_append_left (by rw [Qi]; exact hj), List.getElem?_eq_getElem (by rw [Qi]; exact hj), Bb3 p a n j hj]
   ·rw [List.getElem?_append_right (by rw [Qi]; omega), Qi, show j - (n + 7) / 8 = 0 by omega, show n - 8 * j = 0 by omega]; rfl
  ·rw [List.getElem?_eq_getElem (by rw [Qi]; omega), Bb3 p a n j (by omega)]
 rw [List.getElem?_eq_getElem (by rw [Aba]; exact h)] at h0
 exact Option.some.inj h0
theorem Bh5 (p : List UInt8) (a n T : Nat) (h1 : 1 ≤ T) (h : n % 8 + T ≤ 8) : (room p a n).set (n / 8) (UInt8.ofNat (Cd p (a + 8 * (n / 8)) (n % 8 + T))) = Agb p a (n + T) := by
 apply List.ext_getElem (by rw [List.length_set, Aba, Qi]; omega)
 intro j g1 g2
 rw [List.length_set, Aba] at g1
 rw [List.getElem_set, Bb3 p a (n + T) j (by rw [Qi] at g2; exact g2)]
 split
 ·rename_i e; subst e; rw [show min 8 (n + T - 8 * (n / 8)) = n % 8 + T by omega]
 ·rw [Bid p a n j g1, show min 8 (n - 8 * j) = 8 by omega, show min 8 (n + T - 8 * j) = 8 by omega]
theorem Bed (p : List UInt8) (a n : Nat) : (room p a n)[n / 8]'(by rw [Aba]; omega) = UInt8.ofNat (Cd p (a + 8 * (n / 8)) (n % 8)) := by
 rw [Bid p a n _ (by omega), show min 8 (n - 8 * (n / 8)) = n % 8 by omega]
theorem Bqo (p : List UInt8) (a n : Nat) (hn : n ≤ 400000) : Td (Agb p a n) (n : Int) ((Kr p (a + n) : Nat) : Int) = some (Agb p a (n + 1), ((n + 1 : Nat) : Int)) := by
 have hb := Abc p (a + n)
 have hp : 2 ^ (n % 8) ≤ 2 ^ 7 := Nat.pow_le_pow_right (by omega) (by omega)
 have hroom : Td (Agb p a n) (n : Int) ((Kr p (a + n) : Nat) : Int) = Ri ((Kr p (a + n) : Nat) : Int) (n : Int) (room p a n) := by
  rw [Td, Aat, Bqn, room]
  by_cases h0 : n % 8 = 0
  ·rw [if_pos (by rw [Ba, h0]; rfl), Ca (by rw [Qi]; simp; omega), Aa, if_pos h0]
  ·rw [if_neg (by rw [Ba]; simp; omega), if_neg h0]
 have hl := Bnd ((Kr p (a + n) : Nat) : Int) n (room p a n) (n % 8) 0 Au (by omega) (by have := Aq; omega)
 rw [hroom, Ri, Aal, Aas]
 refine Eq.trans hl ?_
 have hg : Ak (room p a n) ((n / 8 : Nat) : Int) = some (UInt8.ofNat (Cd p (a + 8 * (n / 8)) (n % 8))) := by
  rw [Cq (by rw [Aba]; omega), Bed]
 have hlt := Bgx p (a + 8 * (n / 8)) (n % 8 + 1) (by omega)
 have hsn := Bc6 p (a + 8 * (n / 8)) (n % 8)
 rw [show a + 8 * (n / 8) + n % 8 = a + n by omega] at hsn
 have hm : Bq ((Kr p (a + n) : Nat) : Int) ((2 ^ (n % 8) : Nat) : Int) = ((2 ^ (n % 8) * Kr p (a + n) : Nat) : Int) := by
  have hle : 2 ^ (n % 8) * Kr p (a + n) ≤ 2 ^ 7 * 1 := Nat.mul_le_mul hp (by omega)
  rw [Brv, ← Int.natCast_mul, Ce (by omega) (by rw [Nat.mul_comm]; omega), Nat.mul_comm]
 have hx : Ae (UInt8.ofNat (Cd p (a + 8 * (n / 8)) (n % 8))) (Ad (((2 ^ (n % 8) * Kr p (a + n) : Nat) : Int)) : UInt8) = UInt8.ofNat (Cd p (a + 8 * (n / 8)) (n % 8 + 1)) := by
  rw [Bt2, Br8, hsn, UInt8.ofNat_add]
 rw [Rg, Ai8, By7 _ (by omega), hg, Aa, Aa, Aa, hm, hx, Aap _ (by rw [Aba]; omega), Aa, Bh5 p a n 1 (by omega) (by omega), Ah (by omega) (by omega)]; rfl
theorem Avw (p : List UInt8) (N : Int) (a n : Nat) (ha : a + n ≤ 8 * p.length) (hp : p.length ≤ 1000000) (hn : n ≤ 300000) : ∀ (j m q : Nat), m + j = n → j < q → El ((a + n : Nat) : Int) p N q ((a + m : Nat) : Int) (m : Int) (Agb p a m) = some (Agb p a n, (n : Int))
 | 0, m, q + 1, hm, _ => by
  rw [El, Km, if_neg (by rw [Af]; simp; omega), show m = n by omega]; rfl
 | j + 1, m, q + 1, hm, hq => by
  rw [El, Km, if_pos (by rw [Af]; simp; omega), Axd p N (a + m) (by omega) (by omega), Aa, Bqo p a m (by omega), Aa]
  simp only
  rw [Ah (by omega) (by omega)]
  exact Avw p N a n ha hp hn j (m + 1) q (by omega) (by omega)
theorem Bik (p : List UInt8) (N : Int) (a n : Nat) (ha : a + n ≤ 8 * p.length) (hp : p.length ≤ 1000000) (hn : n ≤ 300000) : Zg p N (a : Int) ((a + n : Nat) : Int) = some (Agb p a n, (n : Int)) := by
 have := Avw p N a n ha hp hn n 0 Au (by omega) (by have := Aq; omega)
 exact this
end Go.Pl
set_option linter.unusedVariables false
set_option linter.unusedSimpArgs false
namespace Go.Pl
open Go Go.Lv
theorem Bxx {t : Nat} (h : t ≤ 8) : Al (Eh (1 : UInt64) t) (1 : UInt64) = UInt64.ofNat (2 ^ t - 1) := by
 have : t = 0 ∨ t = 1 ∨ t = 2 ∨ t = 3 ∨ t = 4 ∨ t = 5 ∨ t = 6 ∨ t = 7 ∨ t = 8 := by omega
 rcases this with rfl | rfl | rfl | rfl | rfl | rfl | rfl | rfl | rfl <;> decide
theorem Cas (v : UInt64) {t : Nat} (h : t ≤ 8) : (Hr v (Al (Eh (1 : UInt64) t) (1 : UInt64))).toNat = v.toNat % 2 ^ t := by
 have hp : 2 ^ t ≤ 2 ^ 8 := Nat.pow_le_pow_right (by omega) h
 rw [Bxx h, Avy, UInt64.toNat_and, UInt64.toNat_ofNat', Nat.mod_eq_of_lt (by have := Nat.pow_pos (n := t) (show 0 < 2 by omega); omega), Nat.and_two_pow_sub_one_eq_mod]
theorem or8 {v w i : Nat} (hv : v < 2 ^ i) (hw : w * 2 ^ i < 256) (hi : i < 8) : gor (UInt8.ofNat v) (Eh (UInt8.ofNat w) i) = UInt8.ofNat (v + w * 2 ^ i) := by
 have hp : 2 ^ i ≤ 2 ^ 8 := Nat.pow_le_pow_right (by omega) (by omega)
 have hpos : 0 < 2 ^ i := Nat.pow_pos (by omega)
 have hw2 : w < 256 := Nat.lt_of_le_of_lt (Nat.le_mul_of_pos_right w hpos) hw
 rw [Byr]; apply UInt8.toNat_inj.1
 have e1 : (UInt8.ofNat v).toNat = v := by rw [UInt8.toNat_ofNat', Nat.mod_eq_of_lt (by omega)]
 have e2 : (UInt8.ofNat w).toNat = w := by rw [UInt8.toNat_ofNat', Nat.mod_eq_of_lt (by omega)]
 rw [UInt8.toNat_or, Bt4, e1, e2, Nat.mod_eq_of_lt hw, Nat.mul_comm w, Nat.or_comm, ← Nat.two_pow_add_eq_or_of_lt hv, UInt8.toNat_ofNat', Nat.add_comm v]
 rw [Nat.mul_comm] at hw
 have hb : 2 ^ i * w + v < 256 := by
  rw [Nat.two_pow_add_eq_or_of_lt hv]
  exact Nat.or_lt_two_pow (n := 8) hw (by omega)
 rw [Nat.mod_eq_of_lt hb]
theorem Bq0 (p : List UInt8) (a n T : Nat) (h : T ≤ n) (hn : n ≤ 64) : Ci (Ym p a n) T = Ym p (a + T) (n - T) := by
 apply UInt64.toNat_inj.1
 rw [Aei, Adf p a n hn, Adf p (a + T) (n - T) (by omega)]
 have := Uj p T a
 conv => lhs; rw [show n = T + (n - T) by omega, Akn, Nat.add_mul_div_left _ _ (Nat.pow_pos (by omega)), Nat.div_eq_of_lt this, Nat.zero_add]
theorem Bq4 (p : List UInt8) (a n T : Nat) (h : T ≤ n) (hn : n ≤ 64) : (Ym p a n).toNat % 2 ^ T = Cd p a T := by
 have := Uj p T a
 rw [Adf p a n hn]
 conv => lhs; rw [show n = T + (n - T) by omega, Akn, Nat.add_mul_mod_self_left, Nat.mod_eq_of_lt this]
theorem Bcr (bk : Int → Int → List UInt8 → Option (List UInt8 × Int × Int)) (to' : Int) (p : List UInt8) (N fr : Int) (r6 : UInt64) (a : Nat) : ∀ (j m q : Nat), m + j ≤ 300000 → j ≤ 64 → j < q →
  Pd bk to' p N fr r6 q (Ym p (a + m) j) (j : Int) (m : Int) (Agb p a m) = Ajq bk to' p N fr ((m + j : Nat) : Int) (Agb p a (m + j))
 | 0, m, q + 1, _, _, _ => by
  rw [Pd, Aje, if_neg (by rw [As]; simp)]; rfl
 | j + 1, m, q + 1, hm, hj, hq => by
  have hroom : Pd bk to' p N fr r6 (q + 1) (Ym p (a + m) (j + 1)) ((j + 1 : Nat) : Int) (m : Int) (Agb p a m) = Ajm (Pd bk to' p N fr r6 q) to' fr p N r6 (Ym p (a + m) (j + 1)) ((j + 1 : Nat) : Int) (m : Int) (room p a m) := by
   rw [Pd, Aje, if_pos (by rw [As]; simp), Biz m (by omega), room]
   by_cases h0 : m % 8 = 0
   ·rw [if_pos (by rw [Ba, h0]; rfl), Ca (by rw [Qi]; simp; omega), Aa, if_pos h0]
   ·rw [if_neg (by rw [Ba]; simp; omega), if_neg h0]
  have hl : Al (Ac (room p a m)) 1 = ((m / 8 : Nat) : Int) := by
   rw [Ac, Aba, Bh (by omega) (by omega)]; omega
  have e2 : Hq ((j + 1 : Nat) : Int) (Al (8 : Int) ((m % 8 : Nat) : Int)) = ((min (j + 1) (8 - m % 8) : Nat) : Int) := by
   rw [Amq, Bh (by omega) (by omega)]; omega
  rw [hroom, Ajm, Ao0, Biz m (by omega), e2, hl]
  generalize hT : min (j + 1) (8 - m % 8) = T
  have hT1 : 1 ≤ T := by omega
  have hT8 : m % 8 + T ≤ 8 := by omega
  have hg : Ak (room p a m) ((m / 8 : Nat) : Int) = some (UInt8.ofNat (Cd p (a + 8 * (m / 8)) (m % 8))) := by
   rw [Cq (by rw [Aba]; omega), Bed]
  have z1 : (GI.toZ ((m % 8 : Nat) : Int)).toNat = m % 8 := rfl
  have z2 : (GI.toZ ((T : Nat) : Int)).toNat = T := rfl
  have hlt := Bgx p (a + 8 * (m / 8)) (m % 8 + T) (by omega)
  have hadd := Akn p (m % 8) T (a + 8 * (m / 8))
  rw [show a + 8 * (m / 8) + m % 8 = a + m by omega] at hadd
  have hbyte : (Ad (Hr (Ym p (a + m) (j + 1)) (Al (Eh (1 : UInt64) T) (1 : UInt64))) : UInt8) = UInt8.ofNat (Cd p (a + m) T) := by
   rw [Apl, Cas _ (by omega), Bq4 p (a + m) (j + 1) T (by omega) hj]
  have hnew : gor (UInt8.ofNat (Cd p (a + 8 * (m / 8)) (m % 8))) (Eh (UInt8.ofNat (Cd p (a + m) T)) (m % 8)) = UInt8.ofNat (Cd p (a + 8 * (m / 8)) (m % 8 + T)) := by
   rw [or8 (Uj _ _ _) (by rw [Nat.mul_comm]; omega) (by omega), hadd, Nat.mul_comm (2 ^ (m % 8))]
  rw [hg, z1, z2, hbyte]
  simp only [Aa]
  rw [Cp (by rw [Dt]; simp), Aa, Cp (by rw [Dt]; simp; omega), Aa, hnew, Aap _ (by rw [Aba]; omega), Aa, Bh5 p a m T hT1 hT8, Aps, Av4, Biz m (by omega), e2, hT, Cp (by rw [Dt]; simp), Aa, z2, Bq0 p (a + m) (j + 1) T (by omega) hj, Bh (by omega) (by omega), Ah (by omega) (by omega)]
  have ih := Bcr bk to' p N fr r6 a (j + 1 - T) (m + T) q (by omega) (by omega) (by omega)
  rw [show m + T + (j + 1 - T) = m + (j + 1) by omega] at ih
  rw [← ih, show a + m + T = a + (m + T) by omega, show ((j + 1 : Nat) : Int) - ((T : Nat) : Int) = ((j + 1 - T : Nat) : Int) by omega, show (m : Int) + ((T : Nat) : Int) = ((m + T : Nat) : Int) by omega]
theorem Bg6 (p : List UInt8) (N : Int) (a n : Nat) (ha : a + n ≤ 8 * p.length) (hp : p.length ≤ 1000000) (hn : n ≤ 300000) : ∀ (j m f q : Nat), (f = m ∨ n ≤ f ∧ m = n) → m + j = n → f ≤ n + 64 → j < q → Zq ((a + n : Nat) : Int) p N q ((a + f : Nat) : Int) (m : Int) (Agb p a m) = some (Agb p a n, (n : Int), 0)
 | j, m, f, q + 1, hf, hm, hf2, hq => by
  rw [Zq, Api]
  by_cases hlt : f < n
  ·obtain rfl : f = m := by omega
   have e1 : Hq (64 : Int) (Al ((a + n : Nat) : Int) ((a + f : Nat) : Int)) = ((min 64 (n - f) : Nat) : Int) := by
    rw [Amq, Bh (by omega) (by omega)]; omega
   rw [if_pos (by rw [Af]; simp; omega), e1, get_eq p N (a + f) _ (by omega) (by omega) hp, Aa, Apx]
   have h1 := Bcr (Zq ((a + n : Nat) : Int) p N q) ((a + n : Nat) : Int) p N ((a + f : Nat) : Int) (Ym p (a + f) (min 64 (n - f))) a (min 64 (n - f)) f Au (by omega) (by omega) (by have := Aq; omega)
   refine Eq.trans h1 ?_
   rw [Ajq, Au8, Ah (by omega) (by omega), show ((a + f : Nat) : Int) + 64 = ((a + (f + 64) : Nat) : Int) by omega]
   exact Bg6 p N a n ha hp hn (j - min 64 (n - f)) (f + min 64 (n - f)) (f + 64) q (by omega) (by omega) (by omega) (by omega)
  ·rw [if_neg (by rw [Af]; simp; omega), Aph, Av9, show m = n by omega]
theorem Bxk {p : List UInt8} {N : Nat} (h : okB p N) (a n : Nat) (ha : a + n ≤ N) (hn : n ≤ 300000) : Arx p (N : Int) (a : Int) ((a + n : Nat) : Int) = some (Agb p a n, (n : Int), 0) := by
 obtain ⟨h1, h2, h3⟩ := h
 have := Bg6 p N a n (by omega) (by omega) hn n 0 0 Au (by omega) (by omega) (by omega) (by have := Aq; omega)
 rw [Arx, Aqz, Ajx ⟨h1, h2, h3⟩, Aa, if_neg (by rw [Am]; simp), if_neg (by simp [Af, As]; omega), Apy]
 exact this
end Go.Pl
set_option linter.unusedVariables false
set_option linter.unusedSimpArgs false
namespace Go.Pl
open Go Go.Lv
def Ga (p : List UInt8) : Nat → Nat → Nat
 | _, 0 => 0
 | a, m + 1 => if Kr p a = 1 then 1 + Ga p (a + 1) m else 0
theorem Amg (p : List UInt8) : ∀ (m a : Nat), Ga p a m ≤ m
 | 0, _ => Nat.le_refl _
 | m + 1, a => by rw [Ga]; split <;> have := Amg p m (a + 1) <;> omega
theorem Bjg (p : List UInt8) : ∀ (m a : Nat), ∃ s, Cd p a m + 1 = 2 ^ (Ga p a m + 1) * s + 2 ^ Ga p a m ∧ (Ga p a m = m → s = 0)
 | 0, a => ⟨0, by simp [Cd, Ga], fun _ => rfl⟩
 | m + 1, a => by
  have hb := Abc p a
  obtain ⟨s, h1, h2⟩ := Bjg p m (a + 1)
  by_cases h : Kr p a = 1
  ·refine ⟨s, ?_, fun e => h2 ?_⟩
   ·rw [Ga, if_pos h, Cd, h, show 1 + Ga p (a + 1) m + 1 = (Ga p (a + 1) m + 1) + 1 by omega, show 1 + Ga p (a + 1) m = Ga p (a + 1) m + 1 by omega, Nat.pow_succ, Nat.pow_succ (n := 2) (m := Ga p (a + 1) m)]
    rw [Nat.pow_succ] at h1
    generalize Cd p (a + 1) m = V at *
    generalize 2 ^ Ga p (a + 1) m = W at *
    have e1 : W * 2 * 2 * s = 2 * (W * 2 * s) := by rw [Nat.mul_right_comm (W * 2) 2 s, Nat.mul_comm]
    omega
   ·rw [Ga, if_pos h] at e; omega
  ·refine ⟨Cd p (a + 1) m, ?_, fun e => ?_⟩
   ·rw [Ga, if_neg h, Cd]; simp; omega
   ·rw [Ga, if_neg h] at e; omega
theorem Bvh {n t s : Nat} (h : 2 ^ (t + 1) * s + 2 ^ t ≤ 2 ^ n) (ht : t < n) (x : Nat) (hx : x = 2 ^ n - (2 ^ (t + 1) * s + 2 ^ t)) : x &&& (2 ^ (t + 1) * s + 2 ^ t) = 2 ^ t := by
 have hpos : 0 < 2 ^ t := Nat.pow_pos (by omega)
 have hlt : 2 ^ t < 2 ^ (t + 1) := by rw [Nat.pow_succ]; omega
 have e : x = 2 ^ n - ((2 ^ (t + 1) * s + (2 ^ t - 1)) + 1) := by rw [hx]; congr 1; omega
 apply Nat.eq_of_testBit_eq
 intro i
 rw [Nat.testBit_and, e, Nat.testBit_two_pow_sub_succ (by omega), Nat.testBit_two_pow_mul_add _ (by omega), Nat.testBit_two_pow_mul_add _ hlt]
 by_cases hi : i < t + 1
 ·rw [if_pos hi, if_pos hi, Nat.testBit_two_pow_sub_one, Nat.testBit_two_pow]
  by_cases hit : t = i
  ·subst hit; simp; exact ht
  ·have : ¬ i = t := fun e => hit e.symm
   simp [hit]
 ·rw [if_neg hi, if_neg hi, Nat.testBit_two_pow]
  have : ¬ t = i := by omega
  simp [this]
theorem Bs9 (a : UInt64) : (Bcf a).toNat = 18446744073709551615 - a.toNat := by
 have h := a.toNat_lt
 have e : Bcf a = UInt64.ofNat (BitVec.ofInt 64 18446744073709551615 ^^^ BitVec.ofInt 64 (a.toNat : Int)).toNat := Ho _
 have h1 : BitVec.ofInt 64 (a.toNat : Int) = a.toBitVec := Bfj a
 have h2 : (BitVec.ofInt 64 18446744073709551615 : BitVec 64) = BitVec.allOnes 64 := by decide
 rw [e, UInt64.toNat_ofNat', h1, h2, BitVec.allOnes_xor, BitVec.toNat_not]
 show (18446744073709551616 - 1 - a.toNat) % 18446744073709551616 = 18446744073709551615 - a.toNat
 omega
theorem Br0 (a : UInt64) : (Av1 a).toNat = (18446744073709551616 - a.toNat) % 18446744073709551616 := by
 have h := a.toNat_lt
 have e : Av1 a = UInt64.ofNat ((0 - (a.toNat : Int)) % 18446744073709551616).toNat := Bfi _
 rw [e, UInt64.toNat_ofNat']
 show ((0 - (a.toNat : Int)) % 18446744073709551616).toNat % 18446744073709551616 = _
 omega
def Bz5 : List UInt8 := [0, 1, 56, 2, 57, 49, 28, 3, 61, 58, 42, 50, 38, 29, 17, 4, 62, 47, 59, 36, 45, 43, 51, 22, 53, 39, 33, 30, 24, 18, 12, 5, 63, 55, 48, 27, 60, 41, 37, 16, 46, 35, 44, 21, 52, 32, 23, 11, 54, 26, 40, 15, 34, 20, 31, 10, 25, 14, 19, 9, 13, 8, 7, 6]
theorem Boh : ∀ t : Fin 64, Ak Bz5 (GI.toZ (Ci (Bq (UInt64.ofNat (2 ^ t.val)) (285870213051353865 : UInt64)) (GI.toZ (58 : UInt64)).toNat)) = some (UInt8.ofNat t.val) := by decide +kernel
theorem Bzi (x : UInt64) (t s : Nat) (ht : t < 64) (h : x.toNat + (2 ^ (t + 1) * s + 2 ^ t) = 18446744073709551616) : Fq x = some (t : Int) := by
 have hpos : 0 < 2 ^ t := Nat.pow_pos (by omega)
 have hx : x.toNat = 2 ^ 64 - (2 ^ (t + 1) * s + 2 ^ t) := by show x.toNat = 18446744073709551616 - _; omega
 have hle : 2 ^ t ≤ 2 ^ 63 := Nat.pow_le_pow_right (by omega) (by omega)
 have hne : x ≠ 0 := by
  intro e
  rw [e] at h
  have h' : 2 ^ t * (2 * s + 1) = 2 ^ 64 := by
   rw [Nat.mul_add, Nat.mul_one, ← Nat.mul_assoc, ← Nat.pow_succ]
   show _ = 18446744073709551616
   simpa using h
  have h2 : 2 ^ 64 = 2 ^ t * 2 ^ (64 - t) := by rw [← Nat.pow_add]; congr 1; omega
  rw [h2] at h'
  have h3 := Nat.eq_of_mul_eq_mul_left hpos h'
  rw [show 64 - t = (63 - t) + 1 by omega, Nat.pow_succ] at h3
  omega
 have hx0 : x.toNat ≠ 0 := fun e => hne (UInt64.toNat_inj.1 e)
 have hl : Hr x (Av1 x) = UInt64.ofNat (2 ^ t) := by
  apply UInt64.toNat_inj.1
  rw [Avy, UInt64.toNat_and, Br0, show (18446744073709551616 - x.toNat) % 18446744073709551616 = 2 ^ (t + 1) * s + 2 ^ t by omega, Bvh (n := 64) (by show _ ≤ 18446744073709551616; omega) ht _ hx, UInt64.toNat_ofNat', Nat.mod_eq_of_lt]
  exact Nat.lt_of_le_of_lt hle (by decide)
 have hb := Boh ⟨t, ht⟩
 rw [Fq, if_neg (by rw [As3]; simpa using hne), hl]
 refine Eq.trans (congrArg (fun o => Option.bind o fun c => some (Ad c : Int)) hb) ?_
 rw [Aa, Aj0, UInt8.toNat_ofNat', Nat.mod_eq_of_lt (by show t < 256; omega)]
theorem Bvm (p : List UInt8) (a m : Nat) (hm : m ≤ 48) : Fq (Bcf (Ym p a m)) = some ((Ga p a m : Nat) : Int) := by
 obtain ⟨s, h1, h2⟩ := Bjg p m a
 have hle := Amg p m a
 have hlt := Uj p m a
 have h48 : 2 ^ m ≤ 2 ^ 48 := Nat.pow_le_pow_right (by omega) hm
 have hn : (Bcf (Ym p a m)).toNat = 18446744073709551615 - Cd p a m := by rw [Bs9, Adf p a m (by omega)]
 have h3 : (281474976710656 : Nat) = 2 ^ 48 := rfl
 refine Bzi _ (Ga p a m) s (by omega) ?_
 rw [hn]; omega
def unS (p : List UInt8) (N a : Nat) : Int × Int × Int :=
 if Ga p a (min 48 (N - a)) < min 48 (N - a) then ((Ga p a (min 48 (N - a)) : Nat), ((a + Ga p a (min 48 (N - a)) + 1 : Nat) : Int), 0) else
 if Ga p a (min 48 (N - a)) = 48 then (48, ((a + 48 : Nat) : Int), 0) else (0, 0, 24)
theorem Br6 {p : List UInt8} {N : Nat} (h : okB p N) (a : Nat) (ha : a < N) : Afx p (N : Int) (a : Int) = some (unS p N a) := by
 have hN := h.1
 have e1 : Hq (48 : Int) (Al (N : Int) (a : Int)) = ((min 48 (N - a) : Nat) : Int) := by rw [Amq, Bh (by omega) (by omega)]; omega
 have hle := Amg p (min 48 (N - a)) a
 rw [Afx, Aa7, Ajx h, Aa, if_neg (by rw [Am]; simp), if_neg (by rw [Af]; simp), if_neg (by rw [Dt]; simp; omega), e1, Aws h a _ (by omega), if_neg (by omega), Aa]
 simp only
 rw [Aml, Amk, if_neg (by rw [Am]; simp), Bvm p a _ (by omega), Aa, Amr, Amo, e1, unS]
 by_cases h1 : Ga p a (min 48 (N - a)) < min 48 (N - a)
 ·rw [if_pos (by rw [Af]; simp; omega), if_pos h1, Ah (a := (a : Int)) (by omega) (by omega), show Ae (0 : Int) 1 = 1 by decide, Ah (by omega) (by omega)]
  congr 3; omega
 ·rw [if_neg (by rw [Af]; simp; omega), if_neg h1, Am2, Am7]
  by_cases h2 : Ga p a (min 48 (N - a)) = 48
  ·rw [if_pos (by rw [Ba, h2]; rfl), if_pos h2, h2, Ah (a := (a : Int)) (by omega) (by omega), Ah (by omega) (by omega)]
   congr 3; omega
  ·rw [if_neg (by rw [Ba]; simp; omega), if_neg h2]; rfl
theorem Bd2 (p : List UInt8) : ∀ (m a : Nat), Ga p a m < m → Kr p (a + Ga p a m) ≠ 1
 | 0, _, h => by simp [Ga] at h
 | m + 1, a, h => by
  by_cases hb : Kr p a = 1
  ·rw [Ga, if_pos hb] at h ⊢
   have := Bd2 p m (a + 1) (by omega)
   rwa [show a + (1 + Ga p (a + 1) m) = a + 1 + Ga p (a + 1) m by omega]
  ·rw [Ga, if_neg hb]; exact hb
theorem Beu (p : List UInt8) : ∀ (m a k : Nat), k < Ga p a m → Kr p (a + k) = 1
 | 0, a, k, h => by simp [Ga] at h
 | m + 1, a, k, h => by
  by_cases hb : Kr p a = 1
  ·rw [Ga, if_pos hb] at h
   cases k with
   | zero => exact hb
   | succ k =>
    have := Beu p m (a + 1) k (by omega)
    rwa [show a + (k + 1) = a + 1 + k by omega]
  ·rw [Ga, if_neg hb] at h; omega
def unR (p : List UInt8) (N a : Nat) : Int × Int := if (unS p N a).2.2 = 0 then ((unS p N a).1, (unS p N a).2.1) else (-1, 0)
theorem Ba2 {p : List UInt8} {N : Nat} (h : okB p N) (a : Nat) (ha : a < N) : ∀ (j k q : Nat), k + j = Ga p a (min 48 (N - a)) → j < q → Iv (a : Int) p (N : Int) q (k : Int) = some (unR p N a)
 | 0, k, q + 1, hk, _ => by
  obtain ⟨hN, hl, hz⟩ := h
  have hle := Amg p (min 48 (N - a)) a
  have hk' : k = Ga p a (min 48 (N - a)) := by omega
  have e1 : Ae (a : Int) (k : Int) = ((a + k : Nat) : Int) := by rw [Ah (by omega) (by omega)]; omega
  have hend : Rs (a : Int) (k : Int) p (N : Int) = some (unR p N a) := by
   rw [Rs, Ajc, e1]
   by_cases h48 : k = 48
   ·have hu : unS p N a = (48, ((a + 48 : Nat) : Int), 0) := by rw [unS, ← hk', if_neg (by omega), if_pos h48]
    rw [if_pos (by rw [Ba, h48]; rfl), unR, hu, h48]; rfl
   ·rw [if_neg (by rw [Ba]; simp; omega)]
    by_cases hN2 : N ≤ a + k
    ·have hu : unS p N a = (0, 0, 24) := by rw [unS, ← hk', if_neg (by omega), if_neg h48]
     rw [if_pos (by rw [Dt]; simp; omega), unR, hu]; rfl
    ·have hu : unS p N a = (((k : Nat) : Int), ((a + k + 1 : Nat) : Int), 0) := by rw [unS, ← hk', if_pos (by omega)]
     rw [if_neg (by rw [Dt]; simp; omega), unR, hu, Ah (by omega) (by omega)]; rfl
  rw [Iv, Rk, e1]
  by_cases hc : a + k < N ∧ k < 48
  ·have hb := Abc p (a + k)
   have hs := Bd2 p (min 48 (N - a)) a (by omega)
   rw [← hk'] at hs
   rw [if_pos (by simp [Af]; omega), Axd p _ (a + k) (by omega) (by omega), Aa, if_neg (by rw [Ba]; simp; omega), hend]
  ·rw [if_neg (by simp [Af]; omega), hend]
 | j + 1, k, q + 1, hk, hq => by
  obtain ⟨hN, hl, hz⟩ := h
  have hle := Amg p (min 48 (N - a)) a
  have hb := Beu p (min 48 (N - a)) a k (by omega)
  have e1 : Ae (a : Int) (k : Int) = ((a + k : Nat) : Int) := by rw [Ah (by omega) (by omega)]; omega
  rw [Iv, Rk, e1, if_pos (by simp [Af]; omega), Axd p _ (a + k) (by omega) (by omega), Aa, hb, if_pos (by decide), Ah (by omega) (by omega)]
  exact Ba2 ⟨hN, hl, hz⟩ a ha j (k + 1) q (by omega) (by omega)
theorem Bqm {p : List UInt8} {N : Nat} (h : okB p N) (a : Nat) (ha : a < N) : Afw p (N : Int) (a : Int) = some (unR p N a) := by
 have hle := Amg p (min 48 (N - a)) a
 have := Ba2 h a ha (Ga p a (min 48 (N - a))) 0 Au (by omega) (by have := Aq; omega)
 exact this
end Go.Pl
set_option linter.unusedVariables false
set_option linter.unusedSimpArgs false
namespace Go.Pl
open Go Go.Lv
theorem Brn {p : List UInt8} {N a : Nat} (h : Ga p a (min 48 (N - a)) < min 48 (N - a)) : unS p N a = (((Ga p a (min 48 (N - a)) : Nat) : Int), ((a + Ga p a (min 48 (N - a)) + 1 : Nat) : Int), 0) := by rw [unS, if_pos h]
theorem Brk {p : List UInt8} {N a : Nat} (h : ¬ Ga p a (min 48 (N - a)) < min 48 (N - a)) (h2 : Ga p a (min 48 (N - a)) = 48) : unS p N a = (48, ((a + 48 : Nat) : Int), 0) := by rw [unS, if_neg h, if_pos h2]
theorem Brq {p : List UInt8} {N a : Nat} (h : ¬ Ga p a (min 48 (N - a)) < min 48 (N - a)) (h2 : ¬ Ga p a (min 48 (N - a)) = 48) : unS p N a = (0, 0, 24) := by rw [unS, if_neg h, if_neg h2]
theorem Bp8 {p : List UInt8} {N : Nat} (h : okB p N) (a : Nat) (ha : N ≤ a) : Afx p (N : Int) (a : Int) = some (0, 0, 24) := by
 rw [Afx, Aa7, Ajx h, Aa, if_neg (by rw [Am]; simp), if_neg (by rw [Af]; simp), if_pos (by rw [Dt]; simp; omega)]
def rcS (p : List UInt8) (N a k : Nat) : UInt32 × Int × Int :=
 if N ≤ a then (0, 0, 24) else
 if Ga p a (min 48 (N - a)) < min 48 (N - a) then
  (if N < a + Ga p a (min 48 (N - a)) + 1 + k then (0, 0, 24) else (UInt32.ofNat (Ga p a (min 48 (N - a)) * 2 ^ k + Cd p (a + Ga p a (min 48 (N - a)) + 1) k), ((a + Ga p a (min 48 (N - a)) + 1 + k : Nat) : Int), 0))
 else if Ga p a (min 48 (N - a)) = 48 then
  (if N < a + 48 + 32 then (0, 0, 24) else if Cd p (a + 48) 32 / 2 ^ k < 48 then (0, 0, 12) else (UInt32.ofNat (Cd p (a + 48) 32), ((a + 48 + 32 : Nat) : Int), 0))
 else (0, 0, 24)
theorem Awd {p : List UInt8} {a n : Nat} (h : n ≤ 32) : (Ad (Ym p a n) : UInt32) = UInt32.ofNat (Cd p a n) := by
 have e : (Ad (Ym p a n) : UInt32) = UInt32.ofNat (Ym p a n).toNat := by simp only [Ad, Jb, Dx]
 rw [e, Adf p a n (by omega)]
theorem Ap5 {n : Nat} (h : n < 4294967296) : (UInt32.ofNat n).toNat = n := by rw [UInt32.toNat_ofNat']; exact Nat.mod_eq_of_lt h
theorem Bj6 (p : List UInt8) (a : Nat) {n : Nat} (h : n ≤ 32) : Cd p a n < 4294967296 := by
 have h1 := Uj p n a
 have h2 : 2 ^ n ≤ 2 ^ 32 := Nat.pow_le_pow_right (by omega) h
 omega
theorem Bxd {q v k : Nat} (hq : q < 48) (hv : v < 2 ^ k) (hk : k ≤ 24) : gor (Eh (Ad (q : Int) : UInt32) k) (UInt32.ofNat v) = UInt32.ofNat (q * 2 ^ k + v) := by
 have hp : 2 ^ k ≤ 2 ^ 24 := Nat.pow_le_pow_right (by omega) hk
 have h1 : q * 2 ^ k ≤ 47 * 2 ^ 24 := Nat.mul_le_mul (by omega) hp
 rw [Bvo]; apply UInt32.toNat_inj.1
 rw [UInt32.toNat_or, Azu, Bdj, Ap5 (by omega), Ap5 (n := v) (by omega), Nat.mod_eq_of_lt (by omega), Nat.mul_comm q, ← Nat.two_pow_add_eq_or_of_lt hv, Ap5 (by rw [Nat.mul_comm]; omega)]
theorem Bup {p : List UInt8} {N : Nat} (h : okB p N) (a k : Nat) (hk : k ≤ 24) : Aso p (N : Int) (a : Int) (k : Int) = some (rcS p N a k) := by
 have hN := h.1
 rw [Aso, Apq, Ajx h, Aa, if_neg (by rw [Am]; simp), if_neg (by simp [Af, As]; omega)]
 by_cases ha : N ≤ a
 ·rw [Bp8 h a ha, Aa, rcS, if_pos ha]; rfl
 have hle := Amg p (min 48 (N - a)) a
 rw [Br6 h a (by omega), Aa]
 by_cases h1 : Ga p a (min 48 (N - a)) < min 48 (N - a)
 ·have hS : rcS p N a k = if N < a + Ga p a (min 48 (N - a)) + 1 + k then (0, 0, 24) else (UInt32.ofNat (Ga p a (min 48 (N - a)) * 2 ^ k + Cd p (a + Ga p a (min 48 (N - a)) + 1) k), ((a + Ga p a (min 48 (N - a)) + 1 + k : Nat) : Int), 0) := by rw [rcS, if_neg ha, if_pos h1]
  rw [Brn h1, hS]
  generalize Ga p a (min 48 (N - a)) = q at *
  simp only
  rw [if_neg (by rw [Am]; simp), if_neg (by rw [Ba]; simp; omega), Aji, Aot, Aws h _ k (by omega), Aa]
  by_cases h2 : N < a + q + 1 + k
  ·rw [if_pos h2, if_pos h2]; rfl
  ·rw [if_neg h2, if_neg h2]
   simp only
   have z : (GI.toZ (k : Int)).toNat = k := rfl
   rw [if_neg (by rw [Am]; simp), if_pos (by rw [Af]; simp; omega), Cp (by rw [Dt]; simp), Aa, z, Awd (by omega), Bxd (by omega) (Uj _ _ _) hk, Ah (by omega) (by omega)]; rfl
 ·by_cases h2 : Ga p a (min 48 (N - a)) = 48
  ·have hS : rcS p N a k = if N < a + 48 + 32 then (0, 0, 24) else if Cd p (a + 48) 32 / 2 ^ k < 48 then (0, 0, 12) else (UInt32.ofNat (Cd p (a + 48) 32), ((a + 48 + 32 : Nat) : Int), 0) := by rw [rcS, if_neg ha, if_neg h1, if_pos h2]
   have hg := Aws h (a + 48) 32 (by omega)
   rw [Brk h1 h2, hS]
   simp only
   rw [if_neg (by rw [Am]; simp), if_pos (by rw [Ba]; rfl), Aji, Aot]
   refine Eq.trans (congrArg (fun o => Option.bind o _) hg) ?_
   rw [Aa]
   by_cases h3 : N < a + 48 + 32
   ·rw [if_pos h3, if_pos h3]; rfl
   ·rw [if_neg h3, if_neg h3]
    simp only
    have z : (GI.toZ (k : Int)).toNat = k := rfl
    have hv := Bj6 p (a + 48) (n := 32) (by omega)
    rw [if_neg (by rw [Am]; simp), if_neg (by rw [Af]; simp), Apd, Cp (by rw [Dt]; simp), Aa, Aa, z, Awd (by omega), Bt5]
    have e : (decide ((48 : UInt32).toNat ≤ (Ci (UInt32.ofNat (Cd p (a + 48) 32)) k).toNat)) = decide (¬ Cd p (a + 48) 32 / 2 ^ k < 48) := by
     rw [An1, Ap5 hv]; simp
    rw [e]
    by_cases h4 : Cd p (a + 48) 32 / 2 ^ k < 48
    ·rw [if_pos (by simp [h4]), if_pos h4]
    ·rw [if_neg (by simp; omega), if_neg h4, Ah (by omega) (by omega)]; rfl
  ·rw [Brq h1 h2, rcS, if_neg ha, if_neg h1, if_neg h2]; rfl
theorem Baf (k : Nat) (hk : k ≤ 63) : ∀ (j i q : Nat), i + j = k → j < q → Gk (k : Int) q (UInt64.ofNat (2 ^ i)) (i : Int) = some (UInt64.ofNat (2 ^ k))
 | 0, i, q + 1, hi, _ => by
  rw [Gk, Nj, if_neg (by rw [Af]; simp; omega), show i = k by omega]; rfl
 | j + 1, i, q + 1, hi, hq => by
  have e : Bq (UInt64.ofNat (2 ^ i)) (2 : UInt64) = UInt64.ofNat (2 ^ (i + 1)) := by
   rw [Ag7, Nat.pow_succ, UInt64.ofNat_mul]; rfl
  rw [Gk, Nj, if_pos (by rw [Af]; simp; omega), Ah (by omega) (by omega), e]
  exact Baf k hk j (i + 1) q (by omega) (by omega)
theorem Ag2 (k : Nat) (hk : k ≤ 63) : Ds (k : Int) = some (UInt64.ofNat (2 ^ k)) :=
 Baf k hk k 0 Au (by omega) (by have := Aq; omega)
theorem Amf {k : Nat} (hk : k ≤ 63) : (UInt64.ofNat (2 ^ k)).toNat = 2 ^ k := by
 have hp : 2 ^ k ≤ 2 ^ 63 := Nat.pow_le_pow_right (by omega) hk
 rw [UInt64.toNat_ofNat', Nat.mod_eq_of_lt (by omega)]
theorem Bu7 (v : UInt32) (k : Nat) (hk : k ≤ 24) : Xh v (k : Int) = some ((min 48 (v.toNat / 2 ^ k) : Nat) : Int) := by
 have hpos : 0 < 2 ^ k := Nat.pow_pos (by omega)
 have hv := v.toNat_lt
 rw [Xh, Ag2 k (by omega), Aa, Cp (by rw [Ajn]; simp only [bne_iff_ne, ne_eq, ← UInt64.toNat_inj, Amf (show k ≤ 63 by omega)]; simp), Aa]
 have e : (Cn (Ad v : UInt64) (UInt64.ofNat (2 ^ k))).toNat = v.toNat / 2 ^ k := by
  rw [Arp, UInt64.toNat_div, Iy, Amf (by omega), UInt64.toNat_ofNat', Nat.mod_eq_of_lt (by omega)]
 have hle : v.toNat / 2 ^ k ≤ v.toNat := Nat.div_le_self _ _
 have e2 : Hq (48 : UInt64) (Cn (Ad v : UInt64) (UInt64.ofNat (2 ^ k))) = UInt64.ofNat (min 48 (v.toNat / 2 ^ k)) := by
  apply UInt64.toNat_inj.1
  rw [UInt64.toNat_ofNat', Nat.mod_eq_of_lt (by omega)]
  show (if _ then _ else _ : UInt64).toNat = _
  rw [show (GI.toZ (Cn (Ad v : UInt64) (UInt64.ofNat (2 ^ k)))) = ((v.toNat / 2 ^ k : Nat) : Int) by rw [Jb, e], show GI.toZ (48 : UInt64) = 48 from rfl]
  split
  ·rw [e]; omega
  ·show 48 = _; omega
 rw [e2, Awh (by rw [UInt64.toNat_ofNat', Nat.mod_eq_of_lt] <;> omega), UInt64.toNat_ofNat', Nat.mod_eq_of_lt (by omega)]
theorem Bsv {p : List UInt8} {N : Nat} (h : okB p N) (a k : Nat) (hk : k ≤ 24) : Zt p (N : Int) (a : Int) (k : Int) = some (rcS p N a k) := by
 obtain ⟨hN, hl, hz⟩ := h
 have h : okB p N := ⟨hN, hl, hz⟩
 rw [Zt, Aa4]
 by_cases ha : N ≤ a
 ·rw [if_pos (by rw [Dt]; simp; omega), rcS, if_pos ha]
 have hle := Amg p (min 48 (N - a)) a
 rw [if_neg (by rw [Dt]; simp; omega), Bqm h a (by omega), Aa, unR]
 by_cases h1 : Ga p a (min 48 (N - a)) < min 48 (N - a)
 ·have hS : rcS p N a k = if N < a + Ga p a (min 48 (N - a)) + 1 + k then (0, 0, 24) else (UInt32.ofNat (Ga p a (min 48 (N - a)) * 2 ^ k + Cd p (a + Ga p a (min 48 (N - a)) + 1) k), ((a + Ga p a (min 48 (N - a)) + 1 + k : Nat) : Int), 0) := by rw [rcS, if_neg ha, if_pos h1]
  rw [Brn h1, hS]
  generalize Ga p a (min 48 (N - a)) = q at *
  rw [if_pos rfl]
  simp only
  rw [if_neg (by rw [Ba]; simp; omega), Rf, Aaq, Bh (by omega) (by omega)]
  by_cases h2 : N < a + q + 1 + k
  ·rw [if_pos (by simp [Af]; omega), if_pos h2]
  ·have hp : 2 ^ k ≤ 2 ^ 24 := Nat.pow_le_pow_right (by omega) hk
   have hm : q * 2 ^ k ≤ 47 * 2 ^ 24 := Nat.mul_le_mul (by omega) hp
   have hv := Uj p k (a + q + 1)
   have e : (Ad (Ae (Bq (Ad (q : Int) : UInt64) (UInt64.ofNat (2 ^ k))) (Ym p (a + q + 1) k)) : UInt32) = UInt32.ofNat (q * 2 ^ k + Cd p (a + q + 1) k) := by
    have e1 : Ae (Bq (Ad (q : Int) : UInt64) (UInt64.ofNat (2 ^ k))) (Ym p (a + q + 1) k) = UInt64.ofNat (q * 2 ^ k + Cd p (a + q + 1) k) := by
     rw [Ag8, Ag7, Zs, Ym, UInt64.ofNat_add, UInt64.ofNat_mul]
    rw [e1]
    have e2 : ∀ x : UInt64, (Ad x : UInt32) = UInt32.ofNat x.toNat := fun x => by simp only [Ad, Jb, Dx]
    rw [e2, UInt64.toNat_ofNat', Nat.mod_eq_of_lt (by omega)]
   rw [if_neg (by simp [Af]; omega), if_neg h2, Aut p _ _ k (by omega) (by omega), Aa, if_pos (by rw [Af]; simp; omega), Ag2 k (by omega), Aa, e, Ah (by omega) (by omega)]; rfl
 ·by_cases h2 : Ga p a (min 48 (N - a)) = 48
  ·have hS : rcS p N a k = if N < a + 48 + 32 then (0, 0, 24) else if Cd p (a + 48) 32 / 2 ^ k < 48 then (0, 0, 12) else (UInt32.ofNat (Cd p (a + 48) 32), ((a + 48 + 32 : Nat) : Int), 0) := by rw [rcS, if_neg ha, if_neg h1, if_pos h2]
   rw [Brk h1 h2, hS, if_pos rfl]
   simp only
   rw [if_pos (by rw [Ba]; rfl), Rf, Aaq, Bh (by omega) (by omega)]
   by_cases h3 : N < a + 48 + 32
   ·rw [if_pos (by simp [Af]; omega), if_pos h3]
   ·have hg := Aut p (N : Int) (a + 48) 32 (by omega) (by omega)
    have hv := Bj6 p (a + 48) (n := 32) (by omega)
    rw [if_neg (by simp [Af]; omega), if_neg h3]
    refine Eq.trans (congrArg (fun o => Option.bind o _) hg) ?_
    rw [Aa, if_neg (by rw [Af]; simp), Awd (by omega), Bu7 _ k hk, Aa, Ap5 hv]
    by_cases h4 : Cd p (a + 48) 32 / 2 ^ k < 48
    ·rw [if_pos (by rw [Af]; simp; omega), if_pos h4]
    ·rw [if_neg (by rw [Af]; simp; omega), if_neg h4, Ah (by omega) (by omega)]; rfl
  ·rw [Brq h1 h2, rcS, if_neg ha, if_neg h1, if_neg h2]
   have e : (if ((0 : Int), (0 : Int), (24 : Int)).2.2 = 0 then (((0 : Int), (0 : Int), (24 : Int)).1, ((0 : Int), (0 : Int), (24 : Int)).2.1) else ((-1 : Int), (0 : Int))) = (-1, 0) := by decide
   rw [e]; rfl
theorem Byb {p : List UInt8} {N a k : Nat} {v : UInt32} {n : Int} (h : rcS p N a k = (v, n, 0)) : (a : Int) < n ∧ n ≤ N := by
 unfold rcS at h
 split at h
 ·simp at h
 split at h
 ·split at h
  ·simp at h
  ·simp only [Prod.mk.injEq] at h; omega
 ·split at h
  ·split at h
   ·simp at h
   ·split at h
    ·simp at h
    ·simp only [Prod.mk.injEq] at h; omega
  ·simp at h
end Go.Pl
set_option linter.unusedVariables false
set_option linter.unusedSimpArgs false
namespace Go.Pl
open Go Go.Lv
def okD (k l : Nat) (s t : UInt64) : Prop := k ≤ 24 ∧ l ≤ 24 ∧ s.toNat ≤ 68719476735 ∧ t.toNat ≤ 68719476735
theorem Bh8 (a b : UInt64) (h : a.toNat ≤ b.toNat) : Hq a b = a := by
 show (if _ then _ else _) = _
 rw [Jb, Jb, if_neg (by omega)]
theorem Avh (a : UInt64) : geq a a = true := by rw [As3]; simp
theorem Bxc {k l : Nat} {s t : UInt64} (h : okD k l s t) : Ap1 (k : Int) (l : Int) s t = some 0 := by
 obtain ⟨h1, h2, h3, h4⟩ := h
 have e1 : Hq (Ate (k : Int) 0) 24 = (k : Int) := by rw [Amq, Bk8]; omega
 have e2 : Hq (Ate (l : Int) 0) 24 = (l : Int) := by rw [Amq, Bk8]; omega
 have e3 : Hq s (68719476735 : UInt64) = s := Bh8 _ _ (by simpa using h3)
 have e4 : Hq t (68719476735 : UInt64) = t := Bh8 _ _ (by simpa using h4)
 have e5 : ∀ a : Int, geq a a = true := fun a => by rw [Ba]; simp
 rw [Ap1, Agr, Anf, Ag0, Amp, Atn, e1, e2, e3, e4, e5, e5, Avh, Avh]; rfl
def Aen (s n : UInt64) : UInt64 := s + n - s / 16
def kS (k : Nat) (s : UInt64) : Nat := if 0 < k ∧ s.toNat < 2 ^ (k + 4) then k - 1 else if k < 24 ∧ 2 ^ (k + 5) < s.toNat then k + 1 else k
theorem Bws {k : Nat} (h : k ≤ 24) (s : UInt64) : kS k s ≤ 24 := by
 unfold kS
 by_cases h1 : 0 < k ∧ s.toNat < 2 ^ (k + 4)
 ·rw [if_pos h1]; omega
 ·rw [if_neg h1]; split <;> omega
theorem Bnm {k : Nat} {s : UInt64} (h : ¬ (0 < k ∧ s.toNat < 2 ^ (k + 4))) : (if k < 24 ∧ 2 ^ (k + 5) < s.toNat then ((k + 1 : Nat) : Int) else (k : Int)) = ((kS k s : Nat) : Int) := by
 rw [kS, if_neg h]; split <;> rfl
theorem Bml {s n : UInt64} (h : s.toNat ≤ 68719476735) (hn : n.toNat ≤ 4294967295) : (Aen s n).toNat ≤ 68719476735 := by
 have h1 := s.toNat_lt
 have e : (s + n).toNat = s.toNat + n.toNat := by rw [UInt64.toNat_add]; omega
 have e2 : (s / 16).toNat = s.toNat / 16 := by rw [UInt64.toNat_div]; rfl
 rw [Aen, UInt64.toNat_sub_of_le _ _ (by rw [UInt64.le_iff_toNat_le, e, e2]; omega), e, e2]; omega
theorem Bbp (s n : UInt64) : Ae s (Al n (Ci s (GI.toZ (4 : UInt64)).toNat)) = Aen s n := by
 have e : Ci s (GI.toZ (4 : UInt64)).toNat = s / 16 := by
  apply UInt64.toNat_inj.1
  rw [Aei, UInt64.toNat_div]; rfl
 rw [e, Ag8, Bb8, Aen, UInt64.sub_eq_add_neg, UInt64.sub_eq_add_neg, UInt64.add_assoc]
theorem Bny (s n : UInt64) : Al (Ae s n) (Cn s (16 : UInt64)) = Aen s n := by rw [Ag8, Bb8, Arp, Aen]
theorem Bzc {k : Nat} (h : k ≤ 24) : (Eh (16 : UInt64) k).toNat = 2 ^ (k + 4) := by
 have hp : 2 ^ k ≤ 2 ^ 24 := Nat.pow_le_pow_right (by omega) h
 rw [Anj, Nat.pow_add]
 show 16 * 2 ^ k % _ = 2 ^ k * 16
 rw [Nat.mod_eq_of_lt (by omega), Nat.mul_comm]
theorem Bx1 {k : Nat} (h : k ≤ 24) : (Eh (32 : UInt64) k).toNat = 2 ^ (k + 5) := by
 have hp : 2 ^ k ≤ 2 ^ 24 := Nat.pow_le_pow_right (by omega) h
 rw [Anj, Nat.pow_add]
 show 32 * 2 ^ k % _ = 2 ^ k * 32
 rw [Nat.mod_eq_of_lt (by omega), Nat.mul_comm]
theorem Bw2 {k : Nat} {s : UInt64} (h : 0 < k) (h2 : s.toNat < 2 ^ (k + 4)) : kS k s = k - 1 := by rw [kS, if_pos ⟨h, h2⟩]
theorem Bw3 {k : Nat} {s : UInt64} (h : ¬ (0 < k ∧ s.toNat < 2 ^ (k + 4))) (h2 : k < 24) (h3 : 2 ^ (k + 5) < s.toNat) : kS k s = k + 1 := by rw [kS, if_neg h, if_pos ⟨h2, h3⟩]
theorem Bm0 {k : Nat} {s : UInt64} (h : ¬ (0 < k ∧ s.toNat < 2 ^ (k + 4))) (h2 : ¬ (k < 24 ∧ 2 ^ (k + 5) < s.toNat)) : kS k s = k := by rw [kS, if_neg h, if_neg h2]
theorem Bw1 {α : Type} (k : Nat) (hk : k ≤ 24) (s : UInt64) (f : Int → Option α) :
  (if (Du (k : Int) (0 : Int)) = true then (
   Option.bind (Vf (Qq (k : Int) (0 : Int))) fun _ =>
   if (By s (Eh (16 : UInt64) (GI.toZ (k : Int)).toNat)) = true then f (Al (k : Int) (1 : Int))
   else (if (By (k : Int) (24 : Int)) = true then (
    Option.bind (Vf (Qq (k : Int) (0 : Int))) fun _ =>
    if (Du s (Eh (32 : UInt64) (GI.toZ (k : Int)).toNat)) = true then f (Ae (k : Int) (1 : Int)) else f (k : Int))
    else f (k : Int)))
  else (if (By (k : Int) (24 : Int)) = true then (
    Option.bind (Vf (Qq (k : Int) (0 : Int))) fun _ =>
    if (Du s (Eh (32 : UInt64) (GI.toZ (k : Int)).toNat)) = true then f (Ae (k : Int) (1 : Int)) else f (k : Int))
    else f (k : Int))) = f ((kS k s : Nat) : Int) := by
 have z : (GI.toZ (k : Int)).toNat = k := rfl
 rw [z, Cp (by rw [Dt]; simp)]
 simp only [Aa]
 rw [Ayz, Al8, Bzc hk, Bx1 hk]
 by_cases h0 : 0 < k
 ·rw [if_pos (by rw [As]; simp; omega)]
  by_cases h1 : s.toNat < 2 ^ (k + 4)
  ·rw [if_pos (by simp [h1]), Bw2 h0 h1, Bh (by omega) (by omega)]; congr 1; omega
  ·rw [if_neg (by simp; omega)]
   by_cases h2 : k < 24
   ·rw [if_pos (by rw [Af]; simp; omega)]
    by_cases h3 : 2 ^ (k + 5) < s.toNat
    ·rw [if_pos (by simp [h3]), Bw3 (fun h => h1 h.2) h2 h3, Ah (by omega) (by omega)]; rfl
    ·rw [if_neg (by simp; omega), Bm0 (fun h => h1 h.2) (fun h => h3 h.2)]
   ·rw [if_neg (by rw [Af]; simp; omega), Bm0 (fun h => h1 h.2) (fun h => h2 h.1)]
 ·rw [if_neg (by rw [As]; simp; omega)]
  by_cases h2 : k < 24
  ·rw [if_pos (by rw [Af]; simp; omega)]
   by_cases h3 : 2 ^ (k + 5) < s.toNat
   ·rw [if_pos (by simp [h3]), Bw3 (fun h => h0 h.1) h2 h3, Ah (by omega) (by omega)]; rfl
   ·rw [if_neg (by simp; omega), Bm0 (fun h => h0 h.1) (fun h => h3 h.2)]
  ·rw [if_neg (by rw [Af]; simp; omega), Bm0 (fun h => h0 h.1) (fun h => h2 h.1)]
theorem Bm5 (k : Nat) (hk : k ≤ 24) (s n : UInt64) : Hs (k : Int) s n = some (((kS k (Aen s n) : Nat) : Int), Aen s n) := by
 have g1 : Ae (k : Int) 4 = ((k + 4 : Nat) : Int) := by rw [Ah (by omega) (by omega)]; omega
 have g2 : Ae (k : Int) 5 = ((k + 5 : Nat) : Int) := by rw [Ah (by omega) (by omega)]; omega
 have hp : Ps (k : Int) s n = some (if k < 24 ∧ 2 ^ (k + 5) < (Aen s n).toNat then ((k + 1 : Nat) : Int) else (k : Int), Aen s n) := by
  rw [Ps, Ag5, g2, Ag2 _ (by omega), Aa, Bny, Al8, Amf (by omega)]
  by_cases h2 : k < 24
  ·rw [if_pos (by rw [Af]; simp; omega)]
   by_cases h3 : 2 ^ (k + 5) < (Aen s n).toNat
   ·rw [if_pos (by simp [h3]), if_pos ⟨h2, h3⟩, Ah (by omega) (by omega)]; rfl
   ·rw [if_neg (by simp; omega), if_neg (fun h => h3 h.2)]
  ·rw [if_neg (by rw [Af]; simp; omega), if_neg (fun h => h2 h.1)]
 rw [Hs, Zf, g1, Ag2 _ (by omega), Aa, Bny, Ayz, Amf (by omega), hp]
 by_cases h0 : 0 < k
 ·rw [if_pos (by rw [As]; simp; omega)]
  by_cases h1 : (Aen s n).toNat < 2 ^ (k + 4)
  ·rw [if_pos (by simp [h1]), Bw2 h0 h1, Bh (by omega) (by omega)]; congr 2; omega
  ·rw [if_neg (by simp; omega), Bnm (fun h => h1 h.2)]
 ·rw [if_neg (by rw [As]; simp; omega), Bnm (fun h => h0 h.1)]
def n64 (v : UInt32) : UInt64 := UInt64.ofNat v.toNat
theorem Brx (v : UInt32) : (n64 v).toNat ≤ 4294967295 := by have := v.toNat_lt; rw [n64, UInt64.toNat_ofNat', Nat.mod_eq_of_lt (by omega)]; omega
def Ayf (k : Nat) (v : UInt32) : UInt32 := UInt32.ofNat (v.toNat - 2 ^ k)
def lK (l : Nat) (t : UInt64) (k : Nat) (v : UInt32) : Nat := if v.toNat < 2 ^ k then l else kS l (Aen t (n64 (Ayf k v)))
def lT (t : UInt64) (k : Nat) (v : UInt32) : UInt64 := if v.toNat < 2 ^ k then t else Aen t (n64 (Ayf k v))
theorem Bth {k l : Nat} {s t : UInt64} (h : okD k l s t) (v : UInt32) : okD (kS k (Aen s (n64 v))) (lK l t k v) (Aen s (n64 v)) (lT t k v) := by
 obtain ⟨h1, h2, h3, h4⟩ := h
 refine ⟨Bws h1 _, ?_, Bml h3 (Brx v), ?_⟩
 ·unfold lK; split; · exact h2
  exact Bws h2 _
 ·unfold lT; split; · exact h4
  exact Bml h4 (Brx _)
theorem Bx8 (k l : Nat) (s t : UInt64) (hk : k ≤ 24) (v : UInt32) : Tc (k : Int) (l : Int) s t v = some (decide (v.toNat < 2 ^ k)) := by
 have := v.toNat_lt
 rw [Tc, Ag2 k (by omega), Aa, Ayz, Amf (by omega), Iy, UInt64.toNat_ofNat', Nat.mod_eq_of_lt (by omega)]
theorem left_eq (k l : Nat) (s t : UInt64) (hk : k ≤ 24) (v : UInt32) (h : ¬ v.toNat < 2 ^ k) : Kx (k : Int) (l : Int) s t v = some (Ayf k v) := by
 have := v.toNat_lt
 have e2 : ∀ x : UInt64, (Ad x : UInt32) = UInt32.ofNat x.toNat := fun x => by simp only [Ad, Jb, Dx]
 have e3 : (UInt64.ofNat v.toNat).toNat = v.toNat := by rw [UInt64.toNat_ofNat', Nat.mod_eq_of_lt (by omega)]
 rw [Kx, Ag2 k (by omega), Aa, e2, Bb8, Iy, UInt64.toNat_sub_of_le _ _ (by rw [UInt64.le_iff_toNat_le, Amf (by omega), e3]; omega), Amf (by omega), e3, Ayf]
theorem Bod {k l : Nat} {s t : UInt64} (h : okD k l s t) (v : UInt32) : Rh (k : Int) (l : Int) s t v = some (((kS k (Aen s (n64 v)) : Nat) : Int), ((lK l t k v : Nat) : Int), Aen s (n64 v), lT t k v) := by
 obtain ⟨h1, h2, h3, h4⟩ := h
 have hp : ∀ (r1 : Int) (r2 : UInt64), Lu v (k : Int) (l : Int) s t r1 r2 = some (((kS k (Aen s (n64 v)) : Nat) : Int), r1, Aen s (n64 v), r2) := by
  intro r1 r2
  rw [Lu, Aeu, Iy, Bm5 k h1, Aa]; rfl
 rw [Rh, Mb, Bx8 k l s t h1, Aa]
 by_cases hv : v.toNat < 2 ^ k
 ·rw [if_neg (by simp [hv]), hp, lK, if_pos hv, lT, if_pos hv]
 ·rw [if_pos (by simp; omega), left_eq k l s t h1 v hv, Aa, Iy, Bm5 l h2, Aa]
  simp only
  rw [hp, lK, if_neg hv, lT, if_neg hv]; rfl
theorem Btc (k l : Nat) (s t : UInt64) (hk : k ≤ 24) (v : UInt32) : Aow (k : Int) (l : Int) s t v = some (if v.toNat < 2 ^ k then (0, v) else (1, Ayf k v)) := by
 have hp : 2 ^ k ≤ 2 ^ 24 := Nat.pow_le_pow_right (by omega) hk
 have hpos : 0 < 2 ^ k := Nat.pow_pos (by omega)
 have hl := v.toNat_lt
 have z : (GI.toZ (k : Int)).toNat = k := rfl
 have e1 : geq (Ci v k) (0 : UInt32) = decide (v.toNat < 2 ^ k) := by
  rw [Bfm, Bool.eq_iff_iff]
  simp only [beq_iff_eq, ← UInt32.toNat_inj, An1, decide_eq_true_eq]
  show _ / _ = 0 ↔ _
  rw [Nat.div_eq_zero_iff]; omega
 have e2 : ¬ v.toNat < 2 ^ k → Al v (Eh (1 : UInt32) k) = Ayf k v := by
  intro h
  have e3 : (Eh (1 : UInt32) k).toNat = 2 ^ k := by rw [Azu]; show 1 * 2 ^ k % _ = _; rw [Nat.mod_eq_of_lt (by omega), Nat.one_mul]
  apply UInt32.toNat_inj.1
  rw [Bi5, UInt32.toNat_sub_of_le _ _ (by rw [UInt32.le_iff_toNat_le, e3]; omega), e3, Ayf, Ap5 (by omega)]
 rw [Aow, Cp (by rw [Dt]; simp), Aa, Aa, z, e1]
 by_cases h : v.toNat < 2 ^ k
 ·rw [if_pos (by simp [h]), if_pos h]
 ·rw [if_neg (by simp; omega), if_neg h, e2 h]
abbrev Rd := UInt32 × Int × Int × Int × UInt64 × UInt64 × Int
theorem Az8 {k l : Nat} {s t : UInt64} (h : okD k l s t) (v : UInt32) (r : Int) : Ajr (k : Int) (l : Int) s t v r = some (v, r, ((kS k (Aen s (n64 v)) : Nat) : Int), ((lK l t k v : Nat) : Int), Aen s (n64 v), lT t k v, 0) := by
 obtain ⟨h1, h2, h3, h4⟩ := h
 have hp : ∀ (x : Int) (y : UInt64), Adi v r (k : Int) s x y = some (v, r, ((kS k (Aen s (n64 v)) : Nat) : Int), x, Aen s (n64 v), y, 0) := by
  intro x y
  rw [Adi, Ao8, Iy, Bbp, Bw1 k h1]
  rw [Apm, Apt, Am0, Atj, Iy, Bbp]; rfl
 rw [Ajr, Apa, Btc k l s t h1, Aa]
 by_cases hv : v.toNat < 2 ^ k
 ·rw [if_pos hv]
  simp only
  rw [if_neg (by rw [Ba]; simp), hp, lK, if_pos hv, lT, if_pos hv]
 ·rw [if_neg hv]
  simp only
  rw [if_pos (by rw [Ba]; rfl), Iy, Bbp, Bw1 l h2 _ (fun x => Adi v r (k : Int) s x (Aen t (UInt64.ofNat (Ayf k v).toNat))), hp, lK, if_neg hv, lT, if_neg hv]; rfl
def dgS (p : List UInt8) (N a k l : Nat) : UInt32 × Int × Int :=
 if N ≤ a then (0, 0, 24) else
 if Kr p a = 0 then (if N < a + 1 + k then (0, 0, 24) else (UInt32.ofNat (Cd p (a + 1) k), ((a + 1 + k : Nat) : Int), 0)) else
 if (rcS p N (a + 1) l).2.2 ≠ 0 then (0, 0, (rcS p N (a + 1) l).2.2) else
 if 4294967295 < (rcS p N (a + 1) l).1.toNat + 2 ^ k then (0, 0, 12) else (UInt32.ofNat ((rcS p N (a + 1) l).1.toNat + 2 ^ k), (rcS p N (a + 1) l).2.1, 0)
theorem Byn {p : List UInt8} {N a k l : Nat} (h : (dgS p N a k l).2.2 = 0) : (a : Int) < (dgS p N a k l).2.1 ∧ (dgS p N a k l).2.1 ≤ N := by
 revert h
 unfold dgS
 split
 ·simp
 split
 ·split
  ·simp
  ·simp only; omega
 ·split
  ·intro h; contradiction
  ·rename_i h1
   split
   ·simp
   ·intro _
    have := Byb (p := p) (N := N) (a := a + 1) (k := l) (v := (rcS p N (a + 1) l).1) (n := (rcS p N (a + 1) l).2.1) (by
     have e : (rcS p N (a + 1) l).2.2 = 0 := by simpa using h1
     rw [← e])
    simp only; omega
theorem Bus {p : List UInt8} {N : Nat} (h : okB p N) (a : Nat) {k l : Nat} {s t : UInt64} (hd : okD k l s t) : Af9 p (N : Int) (a : Int) (k : Int) (l : Int) s t =
  some (if (dgS p N a k l).2.2 ≠ 0 then (0, 0, 0, 0, 0, 0, (dgS p N a k l).2.2) else ((dgS p N a k l).1, (dgS p N a k l).2.1, ((kS k (Aen s (n64 (dgS p N a k l).1)) : Nat) : Int), ((lK l t k (dgS p N a k l).1 : Nat) : Int), Aen s (n64 (dgS p N a k l).1), lT t k (dgS p N a k l).1, 0)) := by
 obtain ⟨h1, h2, h3, h4⟩ := hd
 have hd : okD k l s t := ⟨h1, h2, h3, h4⟩
 have hN := h.1
 have hg := Aws h a 1 (by omega)
 have hb := Abc p a
 rw [Af9, Aon, Ajx h, Aa, if_neg (by rw [Am]; simp), Bxc hd, Aa, if_neg (by rw [Am]; simp), Apz, Apb]
 refine Eq.trans (congrArg (fun o => Option.bind o _) hg) ?_
 rw [Aa]
 by_cases ha : N ≤ a
 ·have hS : dgS p N a k l = (0, 0, 24) := by rw [dgS, if_pos ha]
  rw [if_pos (by omega), hS]; rfl
 rw [if_neg (by omega)]
 simp only
 have e0 : geq (Ym p a 1) (0 : UInt64) = decide (Kr p a = 0) := by
  rw [As3, Bool.eq_iff_iff]
  simp only [beq_iff_eq, ← UInt64.toNat_inj, decide_eq_true_eq, Adf p a 1 (by omega), Bju]; rfl
 have e1 : Ae (a : Int) 1 = ((a + 1 : Nat) : Int) := by rw [Ah (by omega) (by omega)]; omega
 rw [if_neg (by rw [Am]; simp), e0, e1]
 by_cases hz : Kr p a = 0
 ·rw [if_pos (by simp [hz]), Aws h (a + 1) k (by omega), Aa]
  by_cases h5 : N < a + 1 + k
  ·have hS : dgS p N a k l = (0, 0, 24) := by rw [dgS, if_neg ha, if_pos hz, if_pos h5]
   rw [if_pos h5, hS]; rfl
  ·have hS : dgS p N a k l = (UInt32.ofNat (Cd p (a + 1) k), ((a + 1 + k : Nat) : Int), 0) := by rw [dgS, if_neg ha, if_pos hz, if_neg h5]
   rw [if_neg h5, hS]
   simp only
   rw [if_neg (by rw [Am]; simp), Az8 hd, Awd (by omega), Ah (by omega) (by omega)]; rfl
 ·rw [if_neg (by simp [hz]), Bup h (a + 1) l h2, Aa]
  have hp : 2 ^ k ≤ 2 ^ 24 := Nat.pow_le_pow_right (by omega) h1
  by_cases h5 : (rcS p N (a + 1) l).2.2 ≠ 0
  ·have hS : dgS p N a k l = (0, 0, (rcS p N (a + 1) l).2.2) := by rw [dgS, if_neg ha, if_neg hz, if_pos h5]
   rw [hS]
   generalize rcS p N (a + 1) l = R at *
   obtain ⟨v, n, e⟩ := R
   simp only at *
   rw [if_pos (by rw [Am]; simpa using h5), if_pos h5]
  ·have hv := (rcS p N (a + 1) l).1.toNat_lt
   have z : (GI.toZ (k : Int)).toNat = k := rfl
   have e3 : (Eh (1 : UInt32) k).toNat = 2 ^ k := by rw [Azu]; show 1 * 2 ^ k % _ = _; rw [Nat.mod_eq_of_lt (by omega), Nat.one_mul]
   by_cases h6 : 4294967295 < (rcS p N (a + 1) l).1.toNat + 2 ^ k
   ·have hS : dgS p N a k l = (0, 0, 12) := by rw [dgS, if_neg ha, if_neg hz, if_neg h5, if_pos h6]
    rw [hS]
    generalize rcS p N (a + 1) l = R at *
    obtain ⟨v, n, e⟩ := R
    simp only at *
    rw [if_neg (by rw [Am]; simpa using h5), Cp (by rw [Dt]; simp), Aa, z, if_pos (by rw [Bmn, Bbr, UInt32.toNat_add, e3]; simp; omega), if_pos (by decide)]
   ·have hS : dgS p N a k l = (UInt32.ofNat ((rcS p N (a + 1) l).1.toNat + 2 ^ k), (rcS p N (a + 1) l).2.1, 0) := by rw [dgS, if_neg ha, if_neg hz, if_neg h5, if_neg h6]
    rw [hS]
    generalize rcS p N (a + 1) l = R at *
    obtain ⟨v, n, e⟩ := R
    simp only at *
    have e4 : Ae v (Eh (1 : UInt32) k) = UInt32.ofNat (v.toNat + 2 ^ k) := by
     apply UInt32.toNat_inj.1
     rw [Bbr, UInt32.toNat_add, e3, Ap5 (by omega), Nat.mod_eq_of_lt (by omega)]
    rw [if_neg (by rw [Am]; simpa using h5), Cp (by rw [Dt]; simp), Aa, z, if_neg (by rw [Bmn, Bbr, UInt32.toNat_add, e3]; simp; omega), e4, Az8 hd]; rfl
theorem Bqy {p : List UInt8} {N : Nat} (h : okB p N) (a : Nat) (k l : Nat) (s t : UInt64) (h1 : k ≤ 24) (h2 : l ≤ 24) : Aag p (N : Int) (a : Int) (k : Int) (l : Int) s t = some (dgS p N a k l) := by
 have hN := h.1
 have hl := h.2.1
 have hb := Abc p a
 rw [Aag]
 by_cases ha : N ≤ a
 ·rw [if_pos (by rw [Dt]; simp; omega), dgS, if_pos ha]
 rw [if_neg (by rw [Dt]; simp; omega), Axd p _ a (by omega) (by omega), Aa, Bh (a := (N : Int)) (b := (a : Int)) (by omega) (by omega), Bh (by omega) (by omega)]
 have e1 : Ae (a : Int) 1 = ((a + 1 : Nat) : Int) := by rw [Ah (by omega) (by omega)]; omega
 rw [e1]
 by_cases hz : Kr p a = 0
 ·rw [if_pos (by rw [Ba]; simp [hz])]
  by_cases h5 : N < a + 1 + k
  ·rw [if_pos (by rw [Af]; simp; omega), dgS, if_neg ha, if_pos hz, if_pos h5]
  ·rw [if_neg (by rw [Af]; simp; omega), Aut p _ (a + 1) k (by omega) (by omega), Aa, dgS, if_neg ha, if_pos hz, if_neg h5, Awd (by omega), Ah (by omega) (by omega)]; rfl
 ·rw [if_neg (by rw [Ba]; simp; omega), Bsv h (a + 1) l h2, Aa]
  have hp : 2 ^ k ≤ 2 ^ 24 := Nat.pow_le_pow_right (by omega) h1
  have hv := (rcS p N (a + 1) l).1.toNat_lt
  have e2 : ∀ x : UInt64, (Ad x : UInt32) = UInt32.ofNat x.toNat := fun x => by simp only [Ad, Jb, Dx]
  by_cases h5 : (rcS p N (a + 1) l).2.2 ≠ 0
  ·have hS : dgS p N a k l = (0, 0, (rcS p N (a + 1) l).2.2) := by rw [dgS, if_neg ha, if_neg hz, if_pos h5]
   rw [hS]
   generalize rcS p N (a + 1) l = R at *
   obtain ⟨v, n, e⟩ := R
   simp only at *
   rw [if_pos (by rw [Am]; simpa using h5)]
  ·have hsum : ∀ v : UInt32, (Ae (Ad v : UInt64) (UInt64.ofNat (2 ^ k))).toNat = v.toNat + 2 ^ k := by
    intro v
    have := v.toNat_lt
    have := Nat.pow_pos (n := k) (show 0 < 2 by omega)
    rw [Ag8, UInt64.toNat_add, Iy, Amf (by omega), UInt64.toNat_ofNat']; omega
   by_cases h6 : 4294967295 < (rcS p N (a + 1) l).1.toNat + 2 ^ k
   ·have hS : dgS p N a k l = (0, 0, 12) := by rw [dgS, if_neg ha, if_neg hz, if_neg h5, if_pos h6]
    rw [hS]
    generalize rcS p N (a + 1) l = R at *
    obtain ⟨v, n, e⟩ := R
    simp only at *
    rw [if_neg (by rw [Am]; simpa using h5), Ag2 k (by omega), Aa, if_pos (by rw [Al8, hsum]; simpa using h6)]
   ·have hS : dgS p N a k l = (UInt32.ofNat ((rcS p N (a + 1) l).1.toNat + 2 ^ k), (rcS p N (a + 1) l).2.1, 0) := by rw [dgS, if_neg ha, if_neg hz, if_neg h5, if_neg h6]
    rw [hS]
    generalize rcS p N (a + 1) l = R at *
    obtain ⟨v, n, e⟩ := R
    simp only at *
    rw [if_neg (by rw [Am]; simpa using h5), Ag2 k (by omega), Aa, if_neg (by rw [Al8, hsum]; simpa using h6), e2, hsum]
end Go.Pl
set_option linter.unusedVariables false
set_option linter.unusedSimpArgs false
namespace Go.Pl
open Go Go.Lv
abbrev DuN := Nat × Nat × UInt64 × UInt64
def okN (d : DuN) : Prop := okD d.1 d.2.1 d.2.2.1 d.2.2.2
def nxt (d : DuN) (v : UInt32) : DuN := (kS d.1 (Aen d.2.2.1 (n64 v)), lK d.2.1 d.2.2.2 d.1 v, Aen d.2.2.1 (n64 v), lT d.2.2.2 d.1 v)
def Bgi : DuN := (10, 10, 16384, 16384)
theorem Brl : okN Bgi := ⟨by decide, by decide, by decide, by decide⟩
theorem Byx {d : DuN} (h : okN d) (v : UInt32) : okN (nxt d v) := Bth h v
abbrev DuL := Int × Int × UInt64 × UInt64 × Unit
def toI (d : DuN) : DuL := ((d.1 : Int), (d.2.1 : Int), d.2.2.1, d.2.2.2, ())
def chP (ch : Nat) (v : List UInt32) (c : Nat) : Nat → DuN
 | 0 => Bgi
 | m + 1 => if m % ch = c then nxt (chP ch v c m) (v.getD m 0) else chP ch v c m
theorem Awy (ch : Nat) (v : List UInt32) (c : Nat) : ∀ m, okN (chP ch v c m)
 | 0 => Brl
 | m + 1 => by rw [chP]; split; exact Byx (Awy ch v c m) _; exact Awy ch v c m
theorem Bmm (ch : Nat) (v w : List UInt32) (c : Nat) : ∀ m, m ≤ v.length → chP ch (v ++ w) c m = chP ch v c m
 | 0, _ => rfl
 | m + 1, h => by
  have e : (v ++ w).getD m 0 = v.getD m 0 := by simp [List.getD_eq_getElem?_getD, List.getElem?_append_left (show m < v.length by omega)]
  rw [chP, chP, Bmm ch v w c m (by omega), e]
theorem Bf3 (ch : Nat) (v : List UInt32) (c : Nat) : ∀ m, m ≤ c → c < ch → chP ch v c m = Bgi
 | 0, _, _ => rfl
 | m + 1, h, h2 => by rw [chP, if_neg (by rw [Nat.mod_eq_of_lt (by omega)]; omega), Bf3 ch v c m (by omega) h2]
theorem Bim (ch : Nat) (v : List UInt32) (c i : Nat) (hi : i % ch = c) (hc : c < ch) : ∀ j, j < ch → chP ch v c (i + 1 + j) = chP ch v c (i + 1)
 | 0, _ => rfl
 | j + 1, h => by
  have hne : (i + 1 + j) % ch ≠ c := by
   intro e
   have h1 : (i + (1 + j)) % ch = i % ch := by rw [hi, ← e]; congr 1; omega
   have h2 : (1 + j) % ch = 0 := by
    have h3 := Nat.sub_mod_eq_zero_of_mod_eq h1
    rwa [Nat.add_sub_cancel_left] at h3
   rw [Nat.mod_eq_of_lt (by omega)] at h2; omega
  rw [show i + 1 + (j + 1) = (i + 1 + j) + 1 by omega, chP, if_neg hne, Bim ch v c i hi hc j (by omega)]
theorem Bsw (ch : Nat) (v : List UInt32) (c i : Nat) (hi : i % ch = c) (hc : c < ch) : chP ch v c (i + ch) = nxt (chP ch v c i) (v.getD i 0) := by
 have h := Bim ch v c i hi hc (ch - 1) (by omega)
 rw [show i + 1 + (ch - 1) = i + ch by omega] at h
 rw [h, chP, if_pos hi]
theorem Az9 {l : List UInt32} {k : Nat} (h : k < l.length) : Ak l (k : Int) = some (l.getD k 0) := by
 rw [Cq h]; simp [List.getD_eq_getElem?_getD, h]
theorem Baa (a b : Nat) : Ig (a : Int) (b : Int) = ((a % b : Nat) : Int) := by rw [Ig, Int.tmod_eq_emod_of_nonneg (by omega)]; omega
theorem Ax1 (ch : Nat) (v : List UInt32) (hch : 1 ≤ ch) (hch6 : ch ≤ 6) (hv : v.length ≤ 4000) : ∀ (j i q : Nat), i % ch = v.length % ch → i ≤ v.length → v.length - i ≤ j → j < q →
  Hw (ch : Int) v q (i : Int) ((chP ch v (v.length % ch) i).1 : Int) ((chP ch v (v.length % ch) i).2.1 : Int) (chP ch v (v.length % ch) i).2.2.1 (chP ch v (v.length % ch) i).2.2.2 =
   some (((chP ch v (v.length % ch) v.length).1 : Int), ((chP ch v (v.length % ch) v.length).2.1 : Int), (chP ch v (v.length % ch) v.length).2.2.1, (chP ch v (v.length % ch) v.length).2.2.2)
 | j, i, q + 1, hi, hl, hj, hq => by
  have hc : v.length % ch < ch := Nat.mod_lt _ (by omega)
  rw [Hw, Vb]
  by_cases h : i < v.length
  ·have h1 := Bod (Awy ch v (v.length % ch) i) (v.getD i 0)
   rw [if_pos (by rw [Af, Ac]; simp; omega), Az9 h, Aa, h1, Aa]
   have hle : i + ch ≤ v.length := by
    have h2 := Nat.div_add_mod i ch
    have h3 := Nat.div_add_mod v.length ch
    rw [hi] at h2
    have h4 : ch * (i / ch) < ch * (v.length / ch) := by omega
    have h5 := Nat.lt_of_mul_lt_mul_left h4
    have h6 : ch * (i / ch + 1) ≤ ch * (v.length / ch) := Nat.mul_le_mul_left _ h5
    rw [Nat.mul_add] at h6; omega
   have ih := Ax1 ch v hch hch6 hv (j - ch) (i + ch) q (by rw [Nat.add_mod_right]; exact hi) hle (by omega) (by omega)
   rw [Bsw ch v _ i hi hc] at ih
   simp only
   rw [Ah (by omega) (by omega)]
   exact ih
  ·rw [if_neg (by rw [Af, Ac]; simp; omega), show i = v.length by omega]; rfl
theorem Bp9 (ch : Nat) (v : List UInt32) (hch : 1 ≤ ch) (hch6 : ch ≤ 6) (hv : v.length ≤ 4000) : Lk (ch : Int) v = some (((chP ch v (v.length % ch) v.length).1 : Int), ((chP ch v (v.length % ch) v.length).2.1 : Int), (chP ch v (v.length % ch) v.length).2.2.1, (chP ch v (v.length % ch) v.length).2.2.2) := by
 have hc : v.length % ch < ch := Nat.mod_lt _ (by omega)
 have hle : v.length % ch ≤ v.length := Nat.mod_le _ _
 have h := Ax1 ch v hch hch6 hv v.length (v.length % ch) Au (by rw [Nat.mod_mod]) hle (by omega) (by have := Aq; omega)
 rw [Bf3 ch v _ _ (Nat.le_refl _) hc] at h
 rw [Lk, Ud, Jl, Aa]
 simp only
 rw [Cp (by rw [Am]; simp; omega), Aa, Ac, Baa]
 exact h
def now (ch : Nat) (v : List UInt32) : DuN := chP ch v (v.length % ch) v.length
def win (N a : Nat) : Nat := min 81 (N - a)
def Mc (ch : Nat) (p : List UInt8) (N a : Nat) (out : List UInt32) : UInt32 × Int × Int := dgS (Agb p a (win N a)) (win N a) 0 (now ch out).1 (now ch out).2.1
def Zw (ch : Nat) (p : List UInt8) (N : Nat) : Nat → Nat → List UInt32 → List UInt32 × Nat × Int
 | 0, a, out => (out, a, 0)
 | j + 1, a, out => if (Mc ch p N a out).2.2 ≠ 0 then (out, a, (Mc ch p N a out).2.2) else Zw ch p N j (a + (Mc ch p N a out).2.1.toNat) (out ++ [(Mc ch p N a out).1])
theorem As2 {ch : Nat} {p : List UInt8} {N a : Nat} {out : List UInt32} (h : (Mc ch p N a out).2.2 = 0) : 0 < (Mc ch p N a out).2.1 ∧ (Mc ch p N a out).2.1 ≤ win N a := by
 have := Byn h
 exact ⟨this.1, this.2⟩
theorem Bdp {ch : Nat} {p : List UInt8} {N a : Nat} {out : List UInt32} (h : (Mc ch p N a out).2.2 = 0) : ((a : Int) + (Mc ch p N a out).2.1) = ((a + (Mc ch p N a out).2.1.toNat : Nat) : Int) := by
 have := As2 h; omega
def sts (ch : Nat) (v : List UInt32) : List DuL := (List.range 6).map fun c => toI (chP ch v c v.length)
theorem Bnf {ch : Nat} {v : List UInt32} {c : Nat} (h : c < 6) : Ak (sts ch v) (c : Int) = some (toI (chP ch v c v.length)) := by
 rw [Cq (by simp [sts]; exact h)]; simp [sts]
theorem Bu8 {ch : Nat} {v : List UInt32} {c : Nat} (x : UInt32) (h : c < 6) (hc : c = v.length % ch) : Tp (sts ch v) (c : Int) (toI (nxt (chP ch v c v.length) x)) = some (sts ch (v ++ [x])) := by
 rw [Aap _ (by simp [sts]; exact h)]
 congr 1
 apply List.ext_getElem (by simp [sts])
 intro i h1 h2
 rw [List.getElem_set]
 simp only [sts, List.getElem_map, List.getElem_range]
 have e : (v ++ [x]).getD v.length 0 = x := by simp
 rw [List.length_append, List.length_singleton, chP, e, Bmm ch v [x] i v.length (Nat.le_refl _)]
 by_cases hi : c = i
 ·subst hi; rw [if_pos rfl, if_pos hc.symm]
 ·rw [if_neg hi, if_neg (by omega)]
section
variable {p : List UInt8} {N ch n : Nat}
theorem Bgu (hp : okB p N) (h1 : 1 ≤ ch) (h6 : ch ≤ 6) (hn : n * ch ≤ 4000) : ∀ (j a q : Nat) (out : List UInt32), out.length + j = n * ch → j < q → a ≤ N →
  My (ch : Int) (n : Int) p (N : Int) q (a : Int) (out.length : Int) (sts ch out) out =
   some (if (Zw ch p N j a out).2.2 ≠ 0 then ([], 0, (Zw ch p N j a out).2.2) else ((Zw ch p N j a out).1, ((Zw ch p N j a out).2.1 : Int), 0))
 | j, a, q + 1, out, hj, hq, ha => by
  have hN := hp.1
  have hnn : n ≤ n * ch := Nat.le_mul_of_pos_right n (by omega)
  have em : Bq (n : Int) (ch : Int) = ((n * ch : Nat) : Int) := by rw [Ik (by rw [← Int.natCast_mul]; omega) (by rw [← Int.natCast_mul]; omega), Int.natCast_mul]
  rw [My, Ua, em]
  cases j with
  | zero =>
   rw [if_neg (by rw [Af]; simp; omega)]; rfl
  | succ j =>
   have hc : out.length % ch < 6 := Nat.lt_of_lt_of_le (Nat.mod_lt _ (by omega)) h6
   have ew : Hq (Ae (a : Int) 81) (N : Int) = ((a + win N a : Nat) : Int) := by rw [Amq, Ah (by omega) (by omega)]; unfold win; omega
   have hw : a + win N a ≤ N := by unfold win; omega
   have hw2 : win N a ≤ 81 := by unfold win; omega
   have hd := Bus (Bmg p a (win N a) (by omega)) 0 (Awy ch out (out.length % ch) out.length)
   have ecode : dgS (Agb p a (win N a)) (win N a) 0 (chP ch out (out.length % ch) out.length).1 (chP ch out (out.length % ch) out.length).2.1 = Mc ch p N a out := rfl
   rw [if_pos (by rw [Af]; simp; omega), ew, Bxk hp a _ hw (by omega), Aa]
   simp only
   rw [if_neg (by rw [Am]; simp), Cp (by rw [Am]; simp; omega), Aa, Baa, Bnf hc, Aa, Aa]
   refine Eq.trans (congrArg (fun o => Option.bind o _) hd) ?_
   rw [Aa, ecode, Zw]
   by_cases he : (Mc ch p N a out).2.2 ≠ 0
   ·rw [if_pos he, if_pos he]
    simp only
    rw [Uh, Tv, if_pos (by rw [Am]; simpa using he), if_pos he]
   ·have he0 : (Mc ch p N a out).2.2 = 0 := by simpa using he
    have hok := As2 he0
    have hset := Bu8 (ch := ch) (v := out) (Mc ch p N a out).1 hc rfl
    rw [if_neg he, if_neg he]
    simp only
    rw [Uh, Tv, if_neg (by rw [Am]; simp), Cp (by rw [Am]; simp; omega), Aa, Baa, Bnf hc, Aa]
    refine Eq.trans (congrArg (fun o => Option.bind o _) hset) ?_
    rw [Aa, Ab6, Aj5, Ca (by simp; omega), Aa, Ah (by omega) (by omega), Ah (by omega) (by omega), Bdp he0]
    have ih := Bgu hp h1 h6 hn j (a + (Mc ch p N a out).2.1.toNat) q (out ++ [(Mc ch p N a out).1]) (by simp; omega) (by omega) (by omega)
    rw [List.length_append, List.length_singleton] at ih
    exact ih
theorem Bmx {p : List UInt8} (hN : N = 8 * p.length) (hN2 : N ≤ 330000) (h1 : 1 ≤ ch) (h6 : ch ≤ 6) (hn : n * ch ≤ 4000) : ∀ (j a q : Nat) (out : List UInt32), out.length + j = n * ch → j < q → a ≤ N →
  Cz (ch : Int) (n : Int) p q (a : Int) (out.length : Int) out =
   if (Zw ch p N j a out).2.2 ≠ 0 then some ((Zw ch p N j a out).1, (Zw ch p N j a out).2.2) else Nr ((Zw ch p N j a out).2.1 : Int) p (Zw ch p N j a out).1
 | j, a, q + 1, out, hj, hq, ha => by
  have hnn : n ≤ n * ch := Nat.le_mul_of_pos_right n (by omega)
  have em : Bq (n : Int) (ch : Int) = ((n * ch : Nat) : Int) := by rw [Ik (by rw [← Int.natCast_mul]; omega) (by rw [← Int.natCast_mul]; omega), Int.natCast_mul]
  have e8 : Bq (8 : Int) (Ac p) = (N : Int) := by rw [Ac, Ik (by omega) (by omega)]; omega
  rw [Cz, Wu, em]
  cases j with
  | zero =>
   rw [if_neg (by rw [Af]; simp; omega)]; rfl
  | succ j =>
   have ew : Hq (Ae (a : Int) 81) (N : Int) = ((a + win N a : Nat) : Int) := by rw [Amq, Ah (by omega) (by omega)]; unfold win; omega
   have hw : a + win N a ≤ N := by unfold win; omega
   have hw2 : win N a ≤ 81 := by unfold win; omega
   have hpre : (Option.bind Jl fun (r_4, r_5, r_6, r_7) =>
     if (Qq (out.length : Int) (ch : Int)) = true then (
     Option.bind (Lk (ch : Int) out) fun (r_8, r_9, r_10, r_11) =>
     Gj (Cz (ch : Int) (n : Int) p q) (ch : Int) (n : Int) p (a : Int) (out.length : Int) out r_8 r_9 r_10 r_11)
     else Gj (Cz (ch : Int) (n : Int) p q) (ch : Int) (n : Int) p (a : Int) (out.length : Int) out r_4 r_5 r_6 r_7) =
     Gj (Cz (ch : Int) (n : Int) p q) (ch : Int) (n : Int) p (a : Int) (out.length : Int) out ((now ch out).1 : Int) ((now ch out).2.1 : Int) (now ch out).2.2.1 (now ch out).2.2.2 := by
    rw [Jl, Aa]
    by_cases hc : ch ≤ out.length
    ·simp only
     rw [if_pos (by rw [Dt]; simp; omega), Bp9 ch out h1 h6 (by omega), Aa]; rfl
    ·have e : now ch out = Bgi := by rw [now, Nat.mod_eq_of_lt (by omega), Bf3 ch out _ _ (Nat.le_refl _) (by omega)]
     simp only
     rw [if_neg (by rw [Dt]; simp; omega), e]; rfl
   have hd := Bqy (Bmg p a (win N a) (by omega)) 0 (now ch out).1 (now ch out).2.1 (now ch out).2.2.1 (now ch out).2.2.2 (Awy ch out _ _).1 (Awy ch out _ _).2.1
   have ecode : dgS (Agb p a (win N a)) (win N a) 0 (now ch out).1 (now ch out).2.1 = Mc ch p N a out := rfl
   rw [if_pos (by rw [Af]; simp; omega), hpre, Gj, Afe, e8, ew, Bik p (N : Int) a _ (by omega) (by omega) (by omega), Aa]
   simp only
   refine Eq.trans (congrArg (fun o => Option.bind o _) hd) ?_
   rw [Aa, ecode, Zw]
   by_cases he : (Mc ch p N a out).2.2 ≠ 0
   ·rw [if_pos he, if_pos (by rw [Am]; simpa using he), if_pos he]
   ·have he0 : (Mc ch p N a out).2.2 = 0 := by simpa using he
    have hok := As2 he0
    have ih := Bmx hN hN2 h1 h6 hn j (a + (Mc ch p N a out).2.1.toNat) q (out ++ [(Mc ch p N a out).1]) (by simp; omega) (by omega) (by omega)
    have hx := Bdp he0
    rw [List.length_append, List.length_singleton] at ih
    rw [if_neg he]
    generalize Mc ch p N a out = R at *
    obtain ⟨v, nx, e⟩ := R
    simp only at *
    rw [if_neg (by rw [Am]; simpa using he), Ca (by simp; omega), Aa, Ah (by omega) (by omega), Ah (by omega) (by omega), hx]
    exact ih
end
theorem Ay1 {ch : Nat} {p : List UInt8} {N : Nat} : ∀ (j a : Nat) (out : List UInt32), a ≤ N → (Zw ch p N j a out).2.1 ≤ N ∧ (Zw ch p N j a out).1.length ≤ out.length + j ∧ ((Zw ch p N j a out).2.2 = 0 → (Zw ch p N j a out).1.length = out.length + j)
 | 0, a, out, h => ⟨h, Nat.le_refl _, fun _ => rfl⟩
 | j + 1, a, out, h => by
  rw [Zw]
  split
  ·rename_i he
   exact ⟨h, by simp, fun e => absurd e he⟩
  ·rename_i he
   have hok := As2 (ch := ch) (p := p) (N := N) (a := a) (out := out) (by simpa using he)
   have hw : a + win N a ≤ N := by unfold win; omega
   have ih := Ay1 (ch := ch) (p := p) (N := N) j (a + (Mc ch p N a out).2.1.toNat) (out ++ [(Mc ch p N a out).1]) (by omega)
   rw [List.length_append, List.length_singleton] at ih
   exact ⟨ih.1, by omega, fun e => by have := ih.2.2 e; omega⟩
theorem Bhd (ch n : Int) (b : List UInt8) (N : Int) : Uf ch n b N 0 (List.replicate 6 ((0 : Int), (0 : Int), (0 : UInt64), (0 : UInt64), ())) = Ab5 ch n b N (List.replicate 6 ((10 : Int), (10 : Int), (16384 : UInt64), (16384 : UInt64), ())) := by
 have e : Au = (Au - 7) + 1 + 1 + 1 + 1 + 1 + 1 + 1 := by have := Aq; omega
 rw [Uf, e]
 rfl
theorem values_eq {p : List UInt8} {N ch n : Nat} (hp : okB p N) (h1 : 1 ≤ ch) (h6 : ch ≤ 6) (hn : n * ch ≤ 4000) : Ad8 (ch : Int) (n : Int) p (N : Int) =
  some (if (Zw ch p N (n * ch) 0 []).2.2 ≠ 0 then ([], 0, (Zw ch p N (n * ch) 0 []).2.2) else ((Zw ch p N (n * ch) 0 []).1, ((Zw ch p N (n * ch) 0 []).2.1 : Int), 0)) := by
 have h := Bgu hp h1 h6 hn (n * ch) 0 Au [] (by simp) (by have := Aq; omega) (by omega)
 rw [Ad8, Ads, Bhd]
 exact h
theorem Bc9 (p : List UInt8) (x : List UInt32) (N : Nat) (hN : N = 8 * p.length) (hN2 : N ≤ 330000) : ∀ (j a q : Nat), a + j = N → j < q → Gb p x q (a : Int) = some (x, if Cd p a j = 0 then 0 else 12)
 | 0, a, q + 1, ha, _ => by
  have e8 : Bq (8 : Int) (Ac p) = (N : Int) := by rw [Ac, Ik (by omega) (by omega)]; omega
  rw [Gb, Np, e8, if_neg (by rw [Af]; simp; omega), Cd, if_pos rfl]; rfl
 | j + 1, a, q + 1, ha, hq => by
  have e8 : Bq (8 : Int) (Ac p) = (N : Int) := by rw [Ac, Ik (by omega) (by omega)]; omega
  have hb := Abc p a
  rw [Gb, Np, e8, if_pos (by rw [Af]; simp; omega), Axd p _ a (by omega) (by omega), Aa, Cd]
  by_cases h : Kr p a = 0
  ·rw [if_neg (by rw [Am]; simp [h]), Ah (by omega) (by omega), h]
   have ih := Bc9 p x N hN hN2 j (a + 1) q (by omega) (by omega)
   rw [show ((a : Int) + 1) = ((a + 1 : Nat) : Int) by omega, ih]
   congr 2
   by_cases hv : Cd p (a + 1) j = 0
   ·rw [if_pos hv, if_pos (by omega)]
   ·rw [if_neg hv, if_neg (by omega)]
  ·rw [if_pos (by rw [Am]; simp; omega), if_neg (by omega)]
theorem Bm7 {p : List UInt8} {N ch n : Nat} (hN : N = 8 * p.length) (hN2 : N ≤ 330000) (h1 : 1 ≤ ch) (h6 : ch ≤ 6) (hn : n * ch ≤ 4000) : Xr (ch : Int) (n : Int) p =
  some (if (Zw ch p N (n * ch) 0 []).2.2 ≠ 0 then ((Zw ch p N (n * ch) 0 []).1, (Zw ch p N (n * ch) 0 []).2.2) else
   ((Zw ch p N (n * ch) 0 []).1, if 7 < N - (Zw ch p N (n * ch) 0 []).2.1 ∨ Cd p (Zw ch p N (n * ch) 0 []).2.1 (N - (Zw ch p N (n * ch) 0 []).2.1) ≠ 0 then 12 else 0)) := by
 have h := Bmx hN hN2 h1 h6 hn (n * ch) 0 Au [] (by simp) (by have := Aq; omega) (by omega)
 have hat := (Ay1 (ch := ch) (p := p) (N := N) (n * ch) 0 [] (by omega)).1
 have e8 : Bq (8 : Int) (Ac p) = (N : Int) := by rw [Ac, Ik (by omega) (by omega)]; omega
 rw [Xr, Yu]
 refine Eq.trans h ?_
 generalize Zw ch p N (n * ch) 0 [] = V at *
 obtain ⟨v, a, e⟩ := V
 simp only at *
 by_cases he : e ≠ 0
 ·rw [if_pos he, if_pos he]
 ·rw [if_neg he, if_neg he, Nr, We, e8, Bh (by omega) (by omega)]
  by_cases h7 : 7 < N - a
  ·rw [if_pos (by rw [As]; simp; omega), if_pos (.inl h7)]
  ·rw [if_neg (by rw [As]; simp; omega), Vp, Bc9 p v N hN hN2 (N - a) a Au (by omega) (by have := Aq; omega)]
   by_cases hv : Cd p a (N - a) = 0
   ·rw [if_pos hv, if_neg (by omega)]
   ·rw [if_neg hv, if_pos (.inr hv)]
end Go.Pl
set_option linter.unusedVariables false
set_option linter.unusedSimpArgs false
namespace Go.Pl
open Go Go.Lv
theorem Bgc (n : Int) : (GI.ofZ n : Int32) = Int32.ofInt n := rfl
theorem Aly (a : Int32) : GI.toZ a = a.toInt := rfl
theorem Anx (a b : Int32) : Ae a b = a + b := by
 rw [Ae, Aly, Aly, Bgc, Int32.ofInt_add, Int32.ofInt_toInt, Int32.ofInt_toInt]
theorem Bca (a b : Int32) : Al a b = a - b := by
 rw [Al, Aly, Aly, Bgc, Int32.ofInt_sub, Int32.ofInt_toInt, Int32.ofInt_toInt]
theorem Bnt (a b : Int32) : geq a b = (a == b) := by
 rw [geq, Aly, Aly, Bool.eq_iff_iff]; simp [Int32.toInt_inj]
def sel (p : Nat → Bool) (a b : List Int32) : List Int32 := (List.range a.length).map fun k => if p k = true then a.getD k 0 else b.getD k 0
section
variable {p q : Nat → Bool} {a b : List Int32}
theorem Apc : (sel p a b).length = a.length := by simp [sel]
theorem Nh {k : Nat} (h : k < a.length) : a.getD k 0 = a[k] := by simp [List.getD_eq_getElem?_getD, h]
theorem Acw {k : Nat} (h : k < (sel p a b).length) : (sel p a b)[k] = if p k = true then a.getD k 0 else b.getD k 0 := by simp [sel]
theorem Amh {k : Nat} (h : k < a.length) : Ak (sel p a b) (k : Int) = some (if p k = true then a.getD k 0 else b.getD k 0) := by
 rw [Cq (by rw [Apc]; exact h), Acw]
theorem Acn (h : ∀ k, k < a.length → p k = q k) : sel p a b = sel q a b := by
 apply List.map_congr_left
 intro k hk
 rw [h k (List.mem_range.1 hk)]
theorem Awa {k : Nat} (h : k < a.length) : Tp (sel p a b) (k : Int) (a.getD k 0) = some (sel (fun j => p j || decide (j = k)) a b) := by
 rw [Aap _ (by rw [Apc]; exact h)]
 congr 1
 apply List.ext_getElem (by simp [Apc])
 intro i h1 h2
 rw [List.getElem_set, Acw, Acw]
 by_cases hi : k = i
 ·subst hi; simp
 ·have : ¬ i = k := fun e => hi e.symm
  simp [hi, this]
theorem Avb (h : ∀ k, k < a.length → p k = true) : sel p a b = a := by
 apply List.ext_getElem (by simp [Apc])
 intro i h1 h2
 rw [Acw, if_pos (h i h2), Nh h2]
theorem Avj (hl : b.length = a.length) (h : ∀ k, k < a.length → p k = false) : sel p a b = b := by
 apply List.ext_getElem (by simp [Apc, hl])
 intro i h1 h2
 rw [Acw, h i (by omega)]
 simp [List.getD_eq_getElem?_getD, h2]
end
end Go.Pl
set_option linter.unusedVariables false
set_option linter.unusedSimpArgs false
namespace Go.Pl
open Go Go.Lv
theorem Ay8 (a b : Int32) : Bq a b = a * b := by
 rw [Bq, Aly, Aly, Bgc, Int32.ofInt_mul, Int32.ofInt_toInt, Int32.ofInt_toInt]
theorem Aed (a : Int32) : -2147483648 ≤ a.toInt ∧ a.toInt < 2147483648 := ⟨a.le_toInt, a.toInt_lt⟩
theorem En (a : Int32) : (Ad a : Int) = a.toInt := by
 have := Aed a
 show wrap64 a.toInt = _
 rw [Ce] <;> omega
theorem Ajv (n : Int) : (Ad n : Int32) = Int32.ofInt n := rfl
theorem Bpl (x : Int) : Int32.ofInt (x % 4294967296) = Int32.ofInt x := by
 apply Int32.toInt_inj.1
 rw [Int32.toInt_ofInt, Int32.toInt_ofInt]
 exact Int.emod_bmod x 4294967296
theorem Ayy (x : Int) : Bz x = some (Int32.ofInt x) := by
 have e1 : (Ad x : UInt64).toNat = (x % 18446744073709551616).toNat := by
  rw [Bhq, UInt64.toNat_ofNat', Nat.mod_eq_of_lt (by omega)]
 have e2 : (Ad (Ad x : UInt64) : UInt32).toNat = (x % 4294967296).toNat := by
  have e : (Ad (Ad x : UInt64) : UInt32) = UInt32.ofNat (Ad x : UInt64).toNat := by simp only [Ad, Jb, Dx]
  rw [e, UInt32.toNat_ofNat', e1]
  show (x % 18446744073709551616).toNat % 4294967296 = _
  omega
 have e3 : (Ad (Ad (Ad x : UInt64) : UInt32) : Int32) = Int32.ofInt ((Ad (Ad x : UInt64) : UInt32).toNat : Int) := rfl
 rw [Bz, e3, e2, ← Bpl x]
 congr 2; omega
theorem Avk (a b : Int32) : Bz (Ae (Ad a : Int) (Ad b : Int)) = some (a + b) := by
 have := Aed a
 have := Aed b
 rw [En, En, Ah (by omega) (by omega), Ayy, Int32.ofInt_add, Int32.ofInt_toInt, Int32.ofInt_toInt]
theorem Bs2 (a b : Int32) : Bz (Bq (Ad a : Int) (Ad b : Int)) = some (a * b) := by
 have ha := Aed a
 have hb := Aed b
 have h1 : -9223372036854775808 ≤ a.toInt * b.toInt ∧ a.toInt * b.toInt ≤ 9223372036854775807 := by
  have h2 : (a.toInt * b.toInt).natAbs ≤ 2147483648 * 2147483648 := by
   rw [Int.natAbs_mul]; exact Nat.mul_le_mul (by omega) (by omega)
  omega
 rw [En, En, Ik h1.1 h1.2, Ayy, Int32.ofInt_mul, Int32.ofInt_toInt, Int32.ofInt_toInt]
def OkF (s : Int) (t p : List Int32) : Prop := (s = 9 ∨ s = 10) ∧ t.length = 16 ∧ p.length = 16
theorem Awq {s : Int} {t p : List Int32} (h : OkF s t p) : Agk s t p = some 0 := by
 obtain ⟨rfl | rfl, _, _⟩ := h <;> rfl
theorem g32 {l : List Int32} {k : Nat} (h : k < l.length) : Ak l (k : Int) = some (l.getD k 0) := by
 rw [Cq h]; simp [List.getD_eq_getElem?_getD, h]
def Aq1 (t p : List Int32) : Nat → Int32
 | 0 => 0
 | i + 1 => Aq1 t p i + t.getD i 0 * p.getD i 0
def half (s : Int) : Int32 := if s = 9 then 256 else 512
def gF (s : Int) (t p : List Int32) : Int32 := Int32.ofInt ((half s + Aq1 t p 16).toInt.fdiv (if s = 9 then 512 else 1024))
theorem Bee {s : Int} {t p : List Int32} (h : OkF s t p) : ∀ (j i q : Nat), i + j = 16 → j < q → Vj t s p q (half s + Aq1 t p i) (i : Int) = some (gF s t p, 0)
 | 0, i, q + 1, hi, _ => by
  obtain rfl : i = 16 := by omega
  have hs := h.1
  rw [Vj, Agz, if_neg (by rw [Af]; simp), Ana, Atp, Cp (by rw [Dt]; simp; omega), Aa]
  obtain rfl | rfl := hs <;> rfl
 | j + 1, i, q + 1, hi, hq => by
  obtain ⟨hs, ht, hp⟩ := h
  rw [Vj, Agz, if_pos (by rw [Af]; simp; omega), g32 (by omega), Aa, g32 (by omega), Aa, Aa, Ah (b := 1) (by omega) (by omega), Anx, Ay8, Int32.add_assoc]
  exact Bee ⟨hs, ht, hp⟩ j (i + 1) q (by omega) (by omega)
theorem Bsj {s : Int} {t p : List Int32} (h : OkF s t p) : Ap4 s t p = some (gF s t p, 0) := by
 have hs := h.1
 have h1 := Bee h 16 0 Au (by omega) (by have := Aq; omega)
 have e : Eh (1 : Int32) (GI.toZ (Al s (1 : Int))).toNat = half s + Aq1 t p 0 := by
  obtain rfl | rfl := hs <;> rfl
 rw [Ap4, Am4, Awq h, Aa, if_neg (by rw [Am]; simp), Cp (by rw [Dt, Bh (by omega) (by omega)]; simp; omega), Aa, Am3, e]
 exact h1
theorem Ba4 {s : Int} {t p : List Int32} (ht : t.length = 16) (hp : p.length = 16) {g : Int32} (hg : Aq1 t p 16 = g) : ∀ (j i q : Nat), i + j = 16 → j < q → Iu s t p q (Aq1 t p i).toInt (i : Int) = some g
 | 0, i, q + 1, hi, _ => by
  obtain rfl : i = 16 := by omega
  rw [Iu, Rc, if_neg (by rw [Af]; simp), Aar, Ai0, Ajv, Int32.ofInt_toInt, hg]
 | j + 1, i, q + 1, hi, hq => by
  have ih := Ba4 (s := s) ht hp hg j (i + 1) q (by omega) (by omega)
  rw [Aq1] at ih
  rw [Iu, Rc, if_pos (by rw [Af]; simp; omega), g32 (by omega), g32 (by omega), Aa, Aa, Aa, Aa, Bs2, Aa, ← En (Aq1 t p i), Avk, Aa, En, Ah (by omega) (by omega)]
  exact ih
theorem Brr {s : Int} {t p : List Int32} (h : OkF s t p) : Af6 s t p = some (Aq1 t p 16) :=
 Ba4 h.2.1 h.2.2 rfl 16 0 Au (by omega) (by have := Aq; omega)
theorem Bo4 (x n : Int) (hn : n = 512 ∨ n = 1024 ∨ n = 16 ∨ n = 32) : (if x.tmod n < 0 then x.tdiv n - 1 else x.tdiv n) = x.fdiv n := by
 have hs : n.sign = 1 := by obtain rfl | rfl | rfl | rfl := hn <;> rfl
 rw [Int.tdiv_eq_ediv, Int.tmod_eq_emod, hs, Int.fdiv_eq_ediv_of_nonneg _ (by omega)]
 by_cases h : 0 ≤ x ∨ n ∣ x
 ·rw [if_pos h, if_pos h]
  obtain rfl | rfl | rfl | rfl := hn <;> (rw [if_neg (by omega)]; omega)
 ·rw [if_neg h, if_neg h]
  obtain rfl | rfl | rfl | rfl := hn <;> (rw [if_pos (by omega)]; omega)
theorem Bbc (x n : Int) (hn : n = 512 ∨ n = 1024 ∨ n = 16 ∨ n = 32) (h : -1000000000000 ≤ x) (h' : x ≤ 1000000000000) : -1000000000000 ≤ x.tdiv n ∧ x.tdiv n ≤ 1000000000000 := by
 have hs : n.sign = 1 := by obtain rfl | rfl | rfl | rfl := hn <;> rfl
 rw [Int.tdiv_eq_ediv, hs]
 by_cases h : 0 ≤ x ∨ n ∣ x
 ·rw [if_pos h]; obtain rfl | rfl | rfl | rfl := hn <;> omega
 ·rw [if_neg h]; obtain rfl | rfl | rfl | rfl := hn <;> omega
theorem Bzb (x n : Int) (hn : n = 512 ∨ n = 1024 ∨ n = 16 ∨ n = 32) (h : -1000000000000 ≤ x) (h' : x ≤ 1000000000000) : Cn x n = x.tdiv n := by
 have := Bbc x n hn h h'
 rw [Aij, Ce (by omega) (by omega)]
theorem Bht (x n : Int) (hn : n = 512 ∨ n = 1024 ∨ n = 16 ∨ n = 32) (h : -1000000000000 ≤ x) (h' : x ≤ 1000000000000) :
  (if (By (Ig x n) (0 : Int)) = true then some (Ad (Al (Cn x n) (1 : Int)) : Int32) else some (Ad (Cn x n) : Int32)) = some (Int32.ofInt (x.fdiv n)) := by
 have hb := Bbc x n hn h h'
 rw [Af, Ig, Bzb x n hn h h', Bh (by omega) (by omega), Ajv, Ajv, ← Bo4 x n hn]
 by_cases hx : x.tmod n < 0
 ·rw [if_pos (by simpa using hx), if_pos hx]
 ·rw [if_neg (by simpa using hx), if_neg hx]
theorem Buo {s : Int} {t p : List Int32} (h : OkF s t p) : Xm s t p = some (gF s t p) := by
 obtain ⟨hs, ht, hp⟩ := h
 have h : OkF s t p := ⟨hs, ht, hp⟩
 have hx := Aed (Aq1 t p 16 + half s)
 have key : ∀ n : Int, (n = 512 ∨ n = 1024) → (half s).toInt = n / 2 → gF s t p = Int32.ofInt ((half s + Aq1 t p 16).toInt.fdiv n) → Qc s t p n = some (gF s t p) := by
  intro n hn hh hg
  have e2 : Cn n (2 : Int) = (half s).toInt := by rw [hh]; obtain rfl | rfl := hn <;> rfl
  rw [Qc, Aha, Brr h, Aa, e2, ← En (half s), Avk, Aa, Cp (by rw [Am]; simp; omega), Aa, Aa, En, Bht _ n (by omega) (by omega) (by omega), hg, Int32.add_comm]
 rw [Xm, Yn]
 obtain rfl | rfl := hs
 ·rw [if_pos (by rw [Ba]; rfl)]; exact key 512 (.inl rfl) rfl rfl
 ·rw [if_neg (by rw [Ba]; decide)]; exact key 1024 (.inr rfl) rfl rfl
def stp (i : Nat) : Int32 := if i = 0 then 4 else if i < 4 then 2 else 1
def sg (x : Int32) : Int32 := if x.toInt < 0 then -1 else if 0 < x.toInt then 1 else 0
def lrn (t p : List Int32) (w : Int32) : List Int32 := (List.range 16).map fun i => t.getD i 0 + stp i * sg (p.getD i 0) * sg w
theorem Agp (t p : List Int32) (w : Int32) : (lrn t p w).length = 16 := by simp [lrn]
theorem Bfe (t p : List Int32) (w : Int32) {i : Nat} (h : i < 16) : (lrn t p w).getD i 0 = t.getD i 0 + stp i * sg (p.getD i 0) * sg w := by
 rw [Nh (by rw [Agp]; exact h)]; simp [lrn]
theorem step_eq (i : Nat) : Aol (i : Int) = some (stp i) := by
 rw [Aol, stp]
 by_cases h : i = 0
 ·rw [if_pos (by rw [Ba]; simp [h]), if_pos h]
 ·rw [if_neg (by rw [Ba]; simp; omega), if_neg h]
  by_cases h2 : i < 4
  ·rw [if_pos (by rw [Af]; simp; omega), if_pos h2]
  ·rw [if_neg (by rw [Af]; simp; omega), if_neg h2]
theorem Bpe (i : Nat) : Xl (i : Int) = some (stp i) := by
 rw [Xl, stp]
 by_cases h : i = 0
 ·rw [if_pos (by rw [Ba]; simp [h]), if_pos h]
 ·rw [if_neg (by rw [Ba]; simp; omega), if_neg h]
  by_cases h2 : i < 4
  ·rw [if_pos (by rw [An3]; simp; omega), if_pos h2]
  ·rw [if_neg (by rw [An3]; simp; omega), if_neg h2]
theorem Bfg (a b : Int32) : By a b = decide (a.toInt < b.toInt) := rfl
theorem Bly (a b : Int32) : Du a b = decide (b.toInt < a.toInt) := rfl
theorem sign_eq (x : Int32) : Qe x = some (sg x) := by
 rw [Qe, sg, Bfg, Bly, show (0 : Int32).toInt = 0 from rfl]
 by_cases h : x.toInt < 0
 ·rw [if_pos (by simpa using h), if_pos h]
 ·rw [if_neg (by simpa using h), if_neg h]
  by_cases h2 : 0 < x.toInt
  ·rw [if_pos (by simpa using h2), if_pos h2]
  ·rw [if_neg (by simpa using h2), if_neg h2]
theorem Bms : sg 0 = 0 := rfl
theorem toInt_ne {x : Int32} (h : x ≠ 0) : x.toInt ≠ 0 := fun e => h (Int32.toInt_inj.1 (by rw [e]; rfl))
theorem Bfc {x : Int32} (h : x.toInt < 0) : sg x = -1 := by rw [sg, if_pos h]
theorem Bfv {x : Int32} (h : x ≠ 0) (h2 : ¬ x.toInt < 0) : sg x = 1 := by
 have := toInt_ne h
 rw [sg, if_neg h2, if_pos (by omega)]
theorem Asp (i : Nat) : stp i = 4 ∨ stp i = 2 ∨ stp i = 1 := by
 unfold stp
 by_cases h : i = 0
 ·rw [if_pos h]; exact .inl rfl
 ·rw [if_neg h]; split; exact .inr (.inl rfl); exact .inr (.inr rfl)
theorem Bo5 {x w : Int32} (hx : x ≠ 0) (hw : w ≠ 0) (h : (x.toInt < 0) = (w.toInt < 0)) (i : Nat) : stp i * sg x * sg w = stp i := by
 by_cases h1 : x.toInt < 0
 ·rw [Bfc h1, Bfc (by rw [← h]; exact h1)]
  obtain e | e | e := Asp i <;> rw [e] <;> decide
 ·rw [Bfv hx h1, Bfv hw (by rw [← h]; exact h1)]
  obtain e | e | e := Asp i <;> rw [e] <;> decide
theorem Blb {x w : Int32} (hx : x ≠ 0) (hw : w ≠ 0) (h : ¬ (x.toInt < 0) = (w.toInt < 0)) (i : Nat) (a : Int32) : a + stp i * sg x * sg w = a - stp i := by
 have key : stp i * sg x * sg w = - stp i := by
  by_cases h1 : x.toInt < 0
  ·have h2 : ¬ w.toInt < 0 := fun h2 => h (propext ⟨fun _ => h2, fun _ => h1⟩)
   rw [Bfc h1, Bfv hw h2]
   obtain e | e | e := Asp i <;> rw [e] <;> decide
  ·have h2 : w.toInt < 0 := Decidable.by_contra fun h2 => h (propext ⟨fun h3 => absurd h3 h1, fun h3 => absurd h3 h2⟩)
   rw [Bfv hx h1, Bfc h2]
   obtain e | e | e := Asp i <;> rw [e] <;> decide
 rw [key, Int32.sub_eq_add_neg]
def Av2 (i : Nat) : Nat → Bool := fun j => decide (j < i)
theorem Bbz {a b : List Int32} {i : Nat} (h : i < a.length) : Tp (sel (Av2 i) a b) (i : Int) (a.getD i 0) = some (sel (Av2 (i + 1)) a b) := by
 rw [Awa h]
 congr 1
 apply Acn
 intro k _
 rw [Bool.eq_iff_iff]
 simp only [Av2, Bool.or_eq_true, decide_eq_true_eq]; omega
theorem Bpk {a b : List Int32} {i : Nat} (e : a.getD i 0 = b.getD i 0) : sel (Av2 i) a b = sel (Av2 (i + 1)) a b := by
 apply List.map_congr_left
 intro k _
 simp only [Av2, decide_eq_true_eq]
 by_cases h1 : k < i
 ·rw [if_pos h1, if_pos (by omega)]
 ·by_cases h2 : k = i
  ·subst h2; rw [if_neg h1, if_pos (by omega), e]
  ·rw [if_neg h1, if_neg (by omega)]
theorem Bh4 {a b : List Int32} {i : Nat} (h : i < a.length) : Ak (sel (Av2 i) a b) (i : Int) = some (b.getD i 0) := by
 rw [Amh h, if_neg (by simp [Av2])]
theorem Bd7 {s : Int} {t p : List Int32} {w : Int32} (hw : w ≠ 0) (ht : t.length = 16) (hp : p.length = 16) : ∀ (j i q : Nat), i + j = 16 → j < q → Vl w p s q (i : Int) (sel (Av2 i) (lrn t p w) t) = some (s, lrn t p w, p, 0)
 | 0, i, q + 1, hi, _ => by
  obtain rfl : i = 16 := by omega
  rw [Vl, Agq, if_neg (by rw [Af]; simp), Avb (fun k hk => by rw [Agp] at hk; simpa [Av2] using hk)]; rfl
 | j + 1, i, q + 1, hi, hq => by
  have hl := Agp t p w
  have hg := Bfe t p w (i := i) (by omega)
  rw [Vl, Agq, if_pos (by rw [Af]; simp; omega), g32 (by omega), Aa, Ah (b := 1) (by omega) (by omega), Bh4 (by omega), step_eq]
  simp only [Aa]
  rw [Anx, Bca, Bnt, Bfg, Bfg, show (0 : Int32).toInt = 0 from rfl]
  have ih := Bd7 (s := s) hw ht hp j (i + 1) q (by omega) (by omega)
  by_cases hx : p.getD i 0 = 0
  ·rw [if_pos (by rw [hx]; rfl), Bpk (by rw [hg, hx, Bms, Int32.mul_zero, Int32.zero_mul, Int32.add_zero])]
   exact ih
  ·rw [if_neg (by simpa using hx)]
   by_cases hs : ((p.getD i 0).toInt < 0) = (w.toInt < 0)
   ·rw [if_pos (by rw [beq_iff_eq]; simp only [hs]), show t.getD i 0 + stp i = (lrn t p w).getD i 0 by rw [hg, Bo5 hx hw hs], Bbz (by omega), Aa]
    exact ih
   ·rw [if_neg (by rw [beq_iff_eq, decide_eq_decide]; exact fun h => hs (propext h)), show t.getD i 0 - stp i = (lrn t p w).getD i 0 by rw [hg, Blb hx hw hs], Bbz (by omega), Aa]
    exact ih
theorem Bsl {t : List Int32} (p : List Int32) (ht : t.length = 16) : lrn t p 0 = t := by
 apply List.ext_getElem (by rw [Agp, ht])
 intro i h1 h2
 have := Bfe t p 0 (i := i) (by omega)
 rw [Nh h1, Nh h2] at this
 rw [this, Bms, Int32.mul_zero, Int32.add_zero]
theorem Bse {s : Int} {t p : List Int32} (h : OkF s t p) (w : Int32) : Aoy s t p w = some (s, lrn t p w, p, 0) := by
 rw [Aoy, Amx, Awq h, Aa, if_neg (by rw [Am]; simp), Bnt]
 by_cases hw : w = 0
 ·rw [if_pos (by simpa using hw), hw, Bsl p h.2.1]
 ·have h1 := Bd7 (s := s) hw h.2.1 h.2.2 16 0 Au (by omega) (by have := Aq; omega)
  rw [Avj (by rw [Agp, h.2.1]) (fun k _ => by simp [Av2])] at h1
  rw [if_neg (by simpa using hw)]
  exact h1
theorem Av5 {s : Int} {t p : List Int32} {w : Int32} (ht : t.length = 16) (hp : p.length = 16) : ∀ (j i q : Nat), i + j = 16 → j < q → Eo w s p q (i : Int) (sel (Av2 i) (lrn t p w) t) = some (s, lrn t p w, p)
 | 0, i, q + 1, hi, _ => by
  obtain rfl : i = 16 := by omega
  rw [Eo, Kn, if_neg (by rw [Af]; simp), Avb (fun k hk => by rw [Agp] at hk; simpa [Av2] using hk)]; rfl
 | j + 1, i, q + 1, hi, hq => by
  have hl := Agp t p w
  have hg := Bfe t p w (i := i) (by omega)
  rw [Eo, Kn, if_pos (by rw [Af]; simp; omega), g32 (l := p) (by omega), Ah (b := 1) (by omega) (by omega), Bh4 (by omega), Bpe, sign_eq w, Aa, Aa, Aa, Aa, Aa, sign_eq, Aa, Aa, Aa, Anx, Ay8, Ay8, ← hg, Bbz (by omega), Aa]
  exact Av5 ht hp j (i + 1) q (by omega) (by omega)
theorem Bk6 {s : Int} {t p : List Int32} (h : OkF s t p) (w : Int32) : Yy s t p w = some (s, lrn t p w, p) := by
 have h1 := Av5 (s := s) (w := w) h.2.1 h.2.2 16 0 Au (by omega) (by have := Aq; omega)
 rw [Avj (by rw [Agp, h.2.1]) (fun k _ => by simp [Av2])] at h1
 exact h1
theorem Bvl {p : List Int32} (h : p.length = 16) : ∃ a0 a1 a2 a3 a4 a5 a6 a7 a8 a9 b0 b1 b2 b3 b4 b5, p = [a0, a1, a2, a3, a4, a5, a6, a7, a8, a9, b0, b1, b2, b3, b4, b5] := by
 match p, h with
 | [a0, a1, a2, a3, a4, a5, a6, a7, a8, a9, b0, b1, b2, b3, b4, b5], _ => exact ⟨a0, a1, a2, a3, a4, a5, a6, a7, a8, a9, b0, b1, b2, b3, b4, b5, rfl⟩
theorem Bwa {s : Int} {t p : List Int32} (h : OkF s t p) (x : Int32) : As1 s t p x = some (s, t, x :: p.take 15, 0) := by
 obtain ⟨hs, ht, hp⟩ := h
 rw [As1, Ajg, Awq ⟨hs, ht, hp⟩, Aa, if_neg (by rw [Am]; simp), show vwI (16 : Int) 1 16 = some () from rfl, Aa, show vwI (16 : Int) 0 16 = some () from rfl, Aa, Ao5, Avg]
 obtain ⟨a0, a1, a2, a3, a4, a5, a6, a7, a8, a9, b0, b1, b2, b3, b4, b5, rfl⟩ := Bvl hp
 rfl
def shf (p : List Int32) (i : Nat) : List Int32 := (List.range 16).map fun k => if k ≤ i then p.getD k 0 else p.getD (k - 1) 0
theorem Abm (p : List Int32) (i : Nat) : (shf p i).length = 16 := by simp [shf]
theorem Bua (p : List Int32) (i k : Nat) (h : k < 16) : (shf p i).getD k 0 = if k ≤ i then p.getD k 0 else p.getD (k - 1) 0 := by
 rw [Nh (by rw [Abm]; exact h)]; simp [shf]
theorem Bu5 (p : List Int32) (i : Nat) (h : i + 1 < 16) : Tp (shf p (i + 1)) ((i + 1 : Nat) : Int) (p.getD i 0) = some (shf p i) := by
 rw [Aap _ (by rw [Abm]; exact h)]
 congr 1
 apply List.ext_getElem (by simp [Abm])
 intro k h1 h2
 rw [Abm] at h2
 rw [List.getElem_set]
 simp only [shf, List.getElem_map, List.getElem_range]
 by_cases hk : i + 1 = k
 ·subst hk; rw [if_pos rfl, if_neg (by omega)]; rfl
 ·rw [if_neg hk]
  by_cases h3 : k ≤ i
  ·rw [if_pos (by omega), if_pos h3]
  ·rw [if_neg (by omega), if_neg h3]
theorem Ax6 (s : Int) (t p : List Int32) (x : Int32) (hp : p.length = 16) : ∀ (i q : Nat), i < 16 → i < q → Fi x s t q (i : Int) (shf p i) = some (s, t, x :: p.take 15)
 | 0, q + 1, _, _ => by
  have hg : Ak (shf p 0) (0 : Int) = some ((shf p 0).getD 0 0) := g32 (l := shf p 0) (k := 0) (by rw [Abm]; omega)
  have hset : Tp (shf p 0) (0 : Int) x = some ((shf p 0).set 0 x) := Aap (l := shf p 0) (n := 0) x (by rw [Abm]; omega)
  rw [Fi, Ly, if_neg (by rw [As]; simp), Ub, Ac1, hg, Aa, hset, Aa]
  congr 3
  apply List.ext_getElem (by simp [Abm, hp])
  intro k h1 h2
  rw [List.length_set, Abm] at h1
  rw [List.getElem_set]
  cases k with
  | zero => rw [if_pos rfl]; rfl
  | succ k =>
   rw [if_neg (by omega)]
   simp only [shf, List.getElem_map, List.getElem_range, List.getElem_cons_succ, List.getElem_take]
   rw [if_neg (by omega), Nat.add_sub_cancel, Nh (by omega)]
 | i + 1, q + 1, hi, hq => by
  have hg := g32 (l := shf p (i + 1)) (k := i) (by rw [Abm]; omega)
  rw [Bua p (i + 1) i (by omega), if_pos (by omega)] at hg
  have e1 : Al ((i + 1 : Nat) : Int) (1 : Int) = (i : Int) := by rw [Bh (by omega) (by omega)]; omega
  have hg2 := g32 (l := shf p (i + 1)) (k := i + 1) (by rw [Abm]; omega)
  rw [Fi, Ly, if_pos (by rw [As]; simp), e1, hg, Aa, Aa, hg2, Aa, Bu5 p i hi, Aa]
  exact Ax6 s t p x hp i q (by omega) (by omega)
theorem Bpn {s : Int} {t p : List Int32} (hp : p.length = 16) (x : Int32) : Aa2 s t p x = some (s, t, x :: p.take 15) := by
 have h := Ax6 s t p x hp 15 Au (by omega) (by have := Aq; omega)
 have e : shf p 15 = p := by
  apply List.ext_getElem (by rw [Abm, hp])
  intro k h1 h2
  rw [Abm] at h1
  simp only [shf, List.getElem_map, List.getElem_range]
  rw [if_pos (by omega), Nh h2]
 rw [e] at h
 exact h
theorem Bqx {s : Int} {t p : List Int32} (h : OkF s t p) (w x : Int32) : OkF s (lrn t p w) (x :: p.take 15) := ⟨h.1, Agp _ _ _, by simp [h.2.2]⟩
theorem Bvr {s : Int} {t p : List Int32} (h : OkF s t p) (y : Int32) : Asn s t p y = some (y + gF s t p, s, lrn t p y, (y + gF s t p) :: p.take 15, 0) := by
 rw [Asn, Bsj h, Aa]
 simp only
 rw [if_neg (by rw [Am]; simp), Anx, Auz, Bse h, Aa]
 simp only
 rw [Bwa (s := s) (t := lrn t p y) (p := p) ⟨h.1, Agp _ _ _, h.2.2⟩, Aa]; rfl
theorem Bo0 {s : Int} {t p : List Int32} (h : OkF s t p) (y : Int32) : Qf s t p y = some (y + gF s t p, s, lrn t p y, (y + gF s t p) :: p.take 15) := by
 rw [Qf, Buo h, Aa, Avk, Aa, Bk6 h, Aa]
 simp only
 rw [Bpn h.2.2, Aa]
def sB (bits : Int) : Int := if bits = 16 then 9 else 10
def shB (bits : Int) : Int := if bits = 8 then 4 else 5
def Dj (bits : Int) : Prop := bits = 8 ∨ bits = 16 ∨ bits = 24
def gs (sh : Int) (last : Int32) : Int32 := Ad (Aym (Al (Eh (Ad last : Int) sh.toNat) (Ad last)) sh.toNat)
theorem Bz3 (bits : Int) : sB bits = 9 ∨ sB bits = 10 := by unfold sB; split <;> simp
theorem Bug (bits : Int) : 0 ≤ shB bits := by unfold shB; split <;> omega
theorem Cax {bits : Int} (h : Dj bits) (t : List Int32) : Au5 bits t = some (sB bits, t, List.replicate 16 0, 0) := by
 obtain rfl | rfl | rfl := h <;> rfl
theorem Bxi {bits : Int} (h : Dj bits) : Ar3 bits = some (shB bits, 0) := by
 obtain rfl | rfl | rfl := h <;> rfl
theorem Byf {sh : Int} (h : 0 ≤ sh) (last : Int32) : Al7 sh last = some (gs sh last) := by
 rw [Al7, Cp (by rw [Dt]; simpa using h), Aa, Aa]; rfl
theorem Bx4 {bits : Int} (h : Dj bits) (last : Int32) : Ahb bits last = some (gs (shB bits) last, 0) := by
 rw [Ahb, Bxi h, Aa]
 simp only
 rw [if_neg (by rw [Am]; simp), Byf (Bug bits), Aa]
theorem Bkk {bits : Int} (h : Dj bits) (last : Int32) (t p : List Int32) : Ahy bits last (sB bits) t p = some 0 := by
 rw [Ahy, Cax h, Aa]
 simp only
 rw [if_neg (by rw [Am, Am]; simp)]
theorem Bpi {bits : Int} (h : Dj bits) {t p : List Int32} (hF : OkF (sB bits) t p) (last y : Int32) :
  Lc bits last (sB bits) t p y = some (y + gF (sB bits) t p + gs (shB bits) last, bits, y + gF (sB bits) t p + gs (shB bits) last, sB bits, lrn t p y, (y + gF (sB bits) t p) :: p.take 15, 0) := by
 rw [Lc, Bkk h, Aa, if_neg (by rw [Am]; simp), Bx4 h, Aa]
 simp only
 rw [Bvr hF, Aa]
 simp only
 rw [Anx]
theorem Axf (sh : Int) (hs : sh = 4 ∨ sh = 5) (last : Int32) : Lf sh last = some (gs sh last) := by
 have hl := Aed last
 have key : ∀ n : Int, n = 16 ∨ n = 32 → gs sh last = Int32.ofInt (((n - 1) * last.toInt).fdiv n) → Lz last n = some (gs sh last) := by
  intro n hn hg
  have e : Bq (Al n (1 : Int)) (Ad last : Int) = (n - 1) * last.toInt := by
   obtain rfl | rfl := hn <;> (rw [En, Bh (by omega) (by omega), Ik (by omega) (by omega)])
  rw [Lz, Ae1, Cp (by rw [Am]; simp; omega), Aa, Aa, e, Bht _ n (by omega) (by obtain rfl | rfl := hn <;> omega) (by obtain rfl | rfl := hn <;> omega), hg]
 rw [Lf, Uw]
 obtain rfl | rfl := hs
 ·rw [if_neg (by rw [Ba]; decide)]
  refine key 16 (.inl rfl) ?_
  have e : Eh (Ad last : Int) (4 : Int).toNat = last.toInt * 16 := by
   rw [En]; show wrap64 (last.toInt * 2 ^ 4) = _; rw [Ce] <;> omega
  rw [gs, e, En, Bh (by omega) (by omega), Ajv]
  show Int32.ofInt ((last.toInt * 16 - last.toInt).fdiv 16) = _
  congr 2; omega
 ·rw [if_pos (by rw [Ba]; rfl)]
  refine key 32 (.inr rfl) ?_
  have e : Eh (Ad last : Int) (5 : Int).toNat = last.toInt * 32 := by
   rw [En]; show wrap64 (last.toInt * 2 ^ 5) = _; rw [Ce] <;> omega
  rw [gs, e, En, Bh (by omega) (by omega), Ajv]
  show Int32.ofInt ((last.toInt * 32 - last.toInt).fdiv 32) = _
  congr 2; omega
theorem Bow {bits : Int} (h : Dj bits) {t p : List Int32} (hF : OkF (sB bits) t p) (last y : Int32) :
  Hg bits last (sB bits) t p y = some (y + gF (sB bits) t p + gs (shB bits) last, bits, y + gF (sB bits) t p + gs (shB bits) last, sB bits, lrn t p y, (y + gF (sB bits) t p) :: p.take 15) := by
 have hb : Re bits last (sB bits) t p = some (Ad (gs (shB bits) last) : Int) := by
  rw [Re]
  obtain rfl | rfl | rfl := h
  ·rw [if_pos (by rw [Ba]; rfl), Axf 4 (.inl rfl), Aa]; rfl
  ·rw [if_neg (by rw [Ba]; decide), Axf 5 (.inr rfl), Aa]; rfl
  ·rw [if_neg (by rw [Ba]; decide), Axf 5 (.inr rfl), Aa]; rfl
 rw [Hg, Bo0 hF, Aa]
 simp only
 rw [hb, Aa, Avk, Aa]
theorem Cac {bits : Int} (h : Dj bits) (t : List Int32) : Agn bits t = some (bits, 0, sB bits, t, List.replicate 16 0, 0) := by
 obtain rfl | rfl | rfl := h <;> rfl
def Aqf (n : UInt32) : Int32 := if n.toNat % 2 = 0 then Int32.ofInt ((n.toNat / 2 : Nat) : Int) else Int32.ofInt (-((n.toNat / 2 : Nat) : Int) - 1)
theorem Bjq (a b : Int32) : (Abg a b).toBitVec = a.toBitVec ^^^ b.toBitVec := by
 show (Int32.ofInt ((BitVec.ofInt 32 a.toBitVec.toInt ^^^ BitVec.ofInt 32 b.toBitVec.toInt).toNat : Int)).toBitVec = _
 rw [BitVec.ofInt_toInt, BitVec.ofInt_toInt, Int32.toBitVec_ofInt, BitVec.ofInt_natCast, BitVec.ofNat_toNat, BitVec.setWidth_eq]
theorem Bzy (m : Nat) (h : m < 2147483648) : Abg (Int32.ofInt (m : Int)) (Int32.ofInt (-1)) = Int32.ofInt (-(m : Int) - 1) := by
 apply Int32.toBitVec_inj.1
 have e1 : (Int32.ofInt (-1)).toBitVec = BitVec.allOnes 32 := by decide
 rw [Bjq, e1, BitVec.xor_allOnes, Int32.toBitVec_ofInt, Int32.toBitVec_ofInt]
 apply BitVec.eq_of_toNat_eq
 rw [BitVec.toNat_not, BitVec.toNat_ofInt, BitVec.toNat_ofInt]
 omega
theorem Brt (n : UInt32) : Zo n = some (Aqf n) := by
 have hn := n.toNat_lt
 have e1 : (Ad (Ci n (GI.toZ (1 : UInt64)).toNat) : Int32) = Int32.ofInt ((n.toNat / 2 : Nat) : Int) := by
  show Int32.ofInt ((Ci n 1).toNat : Int) = _
  rw [An1]
 have e2 : (Ad (Hr n (1 : UInt32)) : Int32) = Int32.ofInt ((n.toNat % 2 : Nat) : Int) := by
  show Int32.ofInt ((Hr n (1 : UInt32)).toNat : Int) = _
  rw [Bh6, UInt32.toNat_and]
  show Int32.ofInt ((n.toNat &&& 1 : Nat) : Int) = _
  rw [Nat.and_one_is_mod]
 rw [Zo, e1, e2, Aqf]
 congr 1
 by_cases h : n.toNat % 2 = 0
 ·have e3 : Av1 (Int32.ofInt ((n.toNat % 2 : Nat) : Int)) = Int32.ofInt 0 := by rw [h]; decide
  rw [if_pos h, e3]
  apply Int32.toBitVec_inj.1
  rw [Bjq, show (Int32.ofInt 0).toBitVec = 0#32 from rfl, BitVec.xor_zero]
 ·have e3 : Av1 (Int32.ofInt ((n.toNat % 2 : Nat) : Int)) = Int32.ofInt (-1) := by rw [show n.toNat % 2 = 1 by omega]; decide
  rw [if_neg h, e3, Bzy _ (by omega)]
theorem Bv9 (n : UInt32) : Kv n = some (Aqf n) := by
 have hn := n.toNat_lt
 have e1 : geq (Abv n (2 : UInt32)) (0 : UInt32) = decide (n.toNat % 2 = 0) := by
  rw [Bfm, Bic, Bool.eq_iff_iff]
  simp only [beq_iff_eq, ← UInt32.toNat_inj, UInt32.toNat_mod, decide_eq_true_eq]; rfl
 rw [Kv, e1, Aqf]
 by_cases h : n.toNat % 2 = 0
 ·rw [if_pos (by simpa using h), if_pos h, Bhh]; rfl
 ·have e2 : (Ad n : Int) = (n.toNat : Int) := Bkf n
  rw [if_neg (by simpa using h), if_neg h, e2, Ah (by omega) (by omega), Bk9, Ce (by omega) (by omega), Aij, Int.tdiv_eq_ediv, Ajv]
  congr 2
  rw [if_pos (.inr (by omega)), Ce (by omega) (by omega)]; omega
end Go.Pl
set_option linter.unusedVariables false
set_option linter.unusedSimpArgs false
namespace Go.Pl
open Go Go.Lv
theorem Bhi {c : Prop} [Decidable c] (h : c) : Vf (decide c) = some () := by rw [decide_eq_true h]; rfl
def unV (f : Nat → Int32) (ch : Nat) : Nat → Int32
 | 0 => if 1 < ch then f (ch - 1) + Cn (f (ch - 2)) (2 : Int32) else f (ch - 1)
 | j + 1 => unV f ch j - f (ch - 2 - j)
def unm (ch : Nat) (m : List Int32) : List Int32 := (List.range m.length).map fun k => unV (fun i => m.getD (k - k % ch + i) 0) ch (ch - 1 - k % ch)
theorem Asv (ch : Nat) (m : List Int32) : (unm ch m).length = m.length := by simp [unm]
theorem Ay3 {ch : Nat} {m : List Int32} {a i : Nat} (ha : a % ch = 0) (hi : i < ch) (h : a + i < m.length) : (unm ch m).getD (a + i) 0 = unV (fun i => m.getD (a + i) 0) ch (ch - 1 - i) := by
 have hb : (a + i) % ch = i := by rw [Nat.add_mod, ha, Nat.zero_add, Nat.mod_mod, Nat.mod_eq_of_lt hi]
 rw [Nh (by rw [Asv]; exact h)]
 simp only [unm, List.getElem_map, List.getElem_range, hb]
 rw [show a + i - i = a by omega]
section
variable (ch : Nat) (m : List Int32)
theorem Brz (h1 : 1 ≤ ch) (h6 : ch ≤ 6) (hm : m.length % ch = 0) (hl2 : m.length ≤ 4000) : As9 (ch : Int) m = some 0 := by
 rw [As9, if_neg (by simp [Af, As]; omega), if_neg (by rw [As, Ac]; simp; omega), Cp (by rw [Am]; simp; omega), Aa, if_neg]
 rw [Am, Ig, Ac, ← Int.ofNat_tmod, hm]; simp
theorem Bag (bk : Int → List Int32 → Option (List Int32 × Int)) (at' : Nat) (h1 : 1 ≤ ch) (h6 : ch ≤ 6) (hm : at' % ch = 0) (hl : at' + ch ≤ m.length) (hl2 : m.length ≤ 4000) : ∀ (i q : Nat), i ≤ ch - 1 → i < q →
  Zu bk (ch : Int) (at' : Int) q ((i : Int) - 1) (sel (fun k => decide (k < at' ∨ (at' + i ≤ k ∧ k < at' + ch))) (unm ch m) m) = bk ((at' + ch : Nat) : Int) (sel (fun k => decide (k < at' + ch)) (unm ch m) m)
 | 0, q + 1, hi, _ => by
  have e4 : Ae (at' : Int) (ch : Int) = ((at' + ch : Nat) : Int) := by rw [Ah (by omega) (by omega)]; omega
  rw [Zu, Ajs, if_neg (by rw [Dt]; simp), Apn, Ave, e4]
  congr 1
  apply Acn
  intro k _
  rw [Bool.eq_iff_iff]; simp; omega
 | i + 1, q + 1, hi, hq => by
  have hlen := Asv ch m
  have e2 : Ae (at' : Int) (ch : Int) - (at' : Int) = (ch : Int) := by rw [Ah (by omega) (by omega)]; omega
  have e3 : Ae (i : Int) 1 = ((i + 1 : Nat) : Int) := by rw [Ah (by omega) (by omega)]; omega
  have hv : ((unm ch m).getD (at' + (i + 1)) 0 - m.getD (at' + i) 0) = (unm ch m).getD (at' + i) 0 := by
   rw [Ay3 hm (by omega) (by omega), Ay3 hm (by omega) (by omega), show ch - 1 - i = (ch - 1 - (i + 1)) + 1 by omega, unV, show ch - 2 - (ch - 1 - (i + 1)) = i by omega]
  rw [Zu, Ajs, show ((i + 1 : Nat) : Int) - 1 = (i : Int) by omega, if_pos (by rw [Dt]; simp), e2, e3, Bhi (by omega), Aa, Bhi (by omega), Aa,
   show (at' : Int) + ((i + 1 : Nat) : Int) = ((at' + (i + 1) : Nat) : Int) by omega, show (at' : Int) + (i : Int) = ((at' + i : Nat) : Int) by omega,
   Amh (by omega), Aa, Amh (by omega), Aa, Aa, if_pos (by simp; omega), if_neg (by simp; omega), Bca, hv, Awa (by omega), Aa, Bh (by omega) (by omega)]
  have ih := Bag bk at' h1 h6 hm hl hl2 i q (by omega) (by omega)
  rw [← ih]
  congr 1
  apply Acn
  intro k _
  rw [Bool.eq_iff_iff]; simp; omega
theorem Bh2 {at' ch n : Nat} (ha : at' % ch = 0) (hm : n % ch = 0) (h : at' < n) : at' + ch ≤ n := by
 have d1 := Nat.div_add_mod at' ch
 have d2 := Nat.div_add_mod n ch
 rw [ha, Nat.add_zero] at d1
 rw [hm, Nat.add_zero] at d2
 have hlt : at' / ch < n / ch := by
  rcases Nat.lt_or_ge (at' / ch) (n / ch) with h' | h'
  ·exact h'
  ·have := Nat.mul_le_mul_left ch h'; omega
 have := Nat.mul_le_mul_left ch (show at' / ch + 1 ≤ n / ch from hlt)
 rw [Nat.mul_add] at this; omega
theorem Bev (h1 : 1 ≤ ch) (h6 : ch ≤ 6) (hm : m.length % ch = 0) (hl2 : m.length ≤ 4000) : ∀ (j at' q : Nat), at' % ch = 0 → at' ≤ m.length → m.length - at' ≤ j → j < q →
  Tu (ch : Int) q (at' : Int) (sel (fun k => decide (k < at')) (unm ch m) m) = some (unm ch m, 0)
 | j, at', q + 1, ha, hle, hj, hq => by
  have hlen := Asv ch m
  have hl : Ac (sel (fun k => decide (k < at')) (unm ch m) m) = (m.length : Int) := by rw [Ac, Apc, hlen]
  rw [Tu, Ao7, hl]
  by_cases h : at' < m.length
  ·have hb := Bh2 ha hm h
   obtain ⟨j, rfl⟩ : ∃ k, j = k + 1 := ⟨j - 1, by omega⟩
   have e1 : Al (Ae (at' : Int) (ch : Int) - (at' : Int)) 1 = ((ch - 1 : Nat) : Int) := by rw [Ah (by omega) (by omega), Bh (by omega) (by omega)]; omega
   have e2 : Ae (at' : Int) (ch : Int) - (at' : Int) = (ch : Int) := by rw [Ah (by omega) (by omega)]; omega
   have e4 : Ae (at' : Int) (ch : Int) = ((at' + ch : Nat) : Int) := by rw [Ah (by omega) (by omega)]; omega
   have hi := Bag ch m (Tu (ch : Int) q) at' h1 h6 ha hb hl2 (ch - 1) Au (by omega) (by have := Aq; omega)
   have hrest := Bev h1 h6 hm hl2 j (at' + ch) q (by rw [Nat.add_mod_right, ha]) hb (by omega) (by omega)
   have hstart : Ajf (Tu (ch : Int) q) (ch : Int) (at' : Int) (sel (fun k => decide (k < at' ∨ (at' + (ch - 1) ≤ k ∧ k < at' + ch))) (unm ch m) m) = some (unm ch m, 0) := by
    have e6 : Al ((ch - 1 : Nat) : Int) 1 = ((ch - 1 : Nat) : Int) - 1 := Bh (by omega) (by omega)
    rw [Ajf, Ap2, Apv, e1, e6]
    exact Eq.trans hi hrest
   rw [if_pos (by rw [Af]; simp; omega), show vwI (m.length : Int) (at' : Int) (Ae (at' : Int) (ch : Int)) = some () by rw [e4, vwI, Bhi]; omega, Aa, e1, e2]
   have hlast := Ay3 (m := m) ha (show ch - 1 < ch by omega) (by omega)
   rw [show ch - 1 - (ch - 1) = 0 by omega, unV] at hlast
   by_cases hc : 1 < ch
   ·have e5 : Al ((ch - 1 : Nat) : Int) 1 = ((ch - 2 : Nat) : Int) := by rw [Bh (by omega) (by omega)]; omega
    rw [if_pos hc] at hlast
    rw [if_pos (by rw [As]; simp; omega), Bhi (by omega), Aa, e5, Bhi (by omega), Aa, show (at' : Int) + ((ch - 1 : Nat) : Int) = ((at' + (ch - 1) : Nat) : Int) by omega, show (at' : Int) + ((ch - 2 : Nat) : Int) = ((at' + (ch - 2) : Nat) : Int) by omega,
     Amh (by omega), Aa, Amh (by omega), Aa, Aa, if_neg (by simp), if_neg (by simp), Anx, ← hlast, Awa (by omega), Aa]
    rw [← hstart]
    congr 1
    apply Acn
    intro k _
    rw [Bool.eq_iff_iff]; simp; omega
   ·have hc1 : ch = 1 := by omega
    rw [if_neg (by rw [As]; simp; omega), ← hstart]
    congr 1
    rw [if_neg hc] at hlast
    apply List.map_congr_left
    intro k hk
    by_cases hk2 : k = at'
    ·subst hk2
     rw [if_neg (by simp), if_pos (by simp; omega)]
     rw [show k + (ch - 1) = k by omega] at hlast
     exact hlast.symm
    ·by_cases hk3 : k < at'
     ·rw [if_pos (by simp; omega), if_pos (by simp; omega)]
     ·rw [if_neg (by simp; omega), if_neg (by simp; omega)]
  ·rw [if_neg (by rw [Af]; simp; omega), Avb (fun k hk => by simp; omega)]
   rfl
theorem Bvn (h1 : 1 ≤ ch) (h6 : ch ≤ 6) (hm : m.length % ch = 0) (hl2 : m.length ≤ 4000) : Avd (ch : Int) m = some (unm ch m, 0) := by
 have hlen := Asv ch m
 have h := Bev ch m h1 h6 hm hl2 m.length 0 Au (by simp) (by omega) (by omega) (by have := Aq; omega)
 rw [Avd, Ars, Brz ch m h1 h6 hm hl2, Aa, if_neg (by rw [Am]; simp), Gq, Ca (by simp; omega), Aa, Aa, List.nil_append, Apj]
 rw [Avj hlen.symm (fun k _ => by simp)] at h
 exact h
end
def Awu (f : Nat → Int32) (ch : Nat) : List Int32 := (List.range ch).map fun i => unV f ch (ch - 1 - i)
theorem Aoi (f : Nat → Int32) (ch : Nat) : (Awu f ch).length = ch := by simp [Awu]
theorem Awc (f : Nat → Int32) {ch i : Nat} (h : i < ch) : (Awu f ch).getD i 0 = unV f ch (ch - 1 - i) := by
 rw [Nh (by rw [Aoi]; exact h)]; simp [Awu]
theorem Bq8 (a b : Int32) : Bz (Al (Ad a : Int) (Ad b : Int)) = some (a - b) := by
 have := Aed a
 have := Aed b
 rw [En, En, Bh (by omega) (by omega), Ayy, Int32.ofInt_sub, Int32.ofInt_toInt, Int32.ofInt_toInt]
theorem Bpp (a b : Int32) : Bz (Ae (Ad a : Int) (Cn (Ad b : Int) (2 : Int))) = some (a + Cn b (2 : Int32)) := by
 have := Aed a
 have hb := Aed b
 have hd : -2147483648 ≤ b.toInt.tdiv 2 ∧ b.toInt.tdiv 2 ≤ 2147483648 := by
  rw [Int.tdiv_eq_ediv, show Int.sign 2 = 1 from rfl]
  by_cases h : 0 ≤ b.toInt ∨ 2 ∣ b.toInt
  ·rw [if_pos h]; omega
  ·rw [if_neg h]; omega
 have e : Cn b (2 : Int32) = Int32.ofInt (b.toInt.tdiv 2) := rfl
 rw [En, En, Aij, Ce (by omega) (by omega), Ah (by omega) (by omega), Ayy, Int32.ofInt_add, Int32.ofInt_toInt, e]
theorem Avv (seg z : List Int32) (ch : Nat) (h6 : ch ≤ 6) (hs : seg.length = ch) (hz : z.length = ch) : ∀ (i q : Nat), i + 1 ≤ ch → i < q →
  Ek seg q ((i : Int) - 1) (sel (fun k => decide (i ≤ k)) (Awu (fun i => seg.getD i 0) ch) z) = some (Awu (fun i => seg.getD i 0) ch)
 | 0, q + 1, hi, _ => by
  rw [Ek, Ks, if_neg (by rw [Dt]; simp), Avb (fun k hk => by simp)]; rfl
 | i + 1, q + 1, hi, hq => by
  have hlen := Aoi (fun i => seg.getD i 0) ch
  have e3 : Ae (i : Int) 1 = ((i + 1 : Nat) : Int) := by rw [Ah (by omega) (by omega)]; omega
  have hv : (Awu (fun i => seg.getD i 0) ch).getD (i + 1) 0 - seg.getD i 0 = (Awu (fun i => seg.getD i 0) ch).getD i 0 := by
   rw [Awc _ (by omega), Awc _ (by omega), show ch - 1 - i = (ch - 1 - (i + 1)) + 1 by omega, unV, show ch - 2 - (ch - 1 - (i + 1)) = i by omega]
  rw [Ek, Ks, show ((i + 1 : Nat) : Int) - 1 = (i : Int) by omega, if_pos (by rw [Dt]; simp), e3, Amh (by omega), Aa, g32 (by omega), Aa, Aa, if_pos (by simp), Bq8, Aa, Amh (by omega), Aa, hv, Awa (by omega), Aa, Bh (by omega) (by omega)]
  have ih := Avv seg z ch h6 hs hz i q (by omega) (by omega)
  rw [← ih]
  congr 1
  apply Acn
  intro k _
  rw [Bool.eq_iff_iff]; simp; omega
theorem Bjp {l : List Int32} {i : Nat} (v : Int32) (h : i < l.length) : (l.set i v).getD i 0 = v := by
 rw [Nh (by rw [List.length_set]; exact h)]; simp
theorem Bkd (seg : List Int32) (ch : Nat) (h1 : 1 ≤ ch) (h6 : ch ≤ 6) (hs : seg.length = ch) : Pq seg = some (Awu (fun i => seg.getD i 0) ch) := by
 have hlen := Aoi (fun i => seg.getD i 0) ch
 have hzl : (List.replicate ch (0 : Int32)).length = ch := by simp
 have e1 : Al (Ac seg) 1 = ((ch - 1 : Nat) : Int) := by rw [Ac, hs, Bh (by omega) (by omega)]; omega
 have e2 : Al (Ac seg) 2 = ((ch - 1 : Nat) : Int) - 1 := by rw [Ac, hs, Bh (by omega) (by omega)]; omega
 have hlast := Awc (fun i => seg.getD i 0) (show ch - 1 < ch by omega)
 rw [show ch - 1 - (ch - 1) = 0 by omega, unV] at hlast
 have hend : ∀ z : List Int32, z.length = ch → z.getD (ch - 1) 0 = (Awu (fun i => seg.getD i 0) ch).getD (ch - 1) 0 → Kl seg z = some (Awu (fun i => seg.getD i 0) ch) := by
  intro z hz hzl
  have h := Avv seg z ch h6 hs hz (ch - 1) Au (by omega) (by have := Aq; omega)
  have e : sel (fun k => decide (ch - 1 ≤ k)) (Awu (fun i => seg.getD i 0) ch) z = z := by
   apply List.ext_getElem (by rw [Apc, hlen, hz])
   intro k k1 k2
   rw [Acw]
   by_cases hk : ch - 1 ≤ k
   ·obtain rfl : k = ch - 1 := by omega
    rw [if_pos (by simp), ← hzl, Nh k2]
   ·rw [if_neg (by simpa using hk), Nh k2]
  rw [e] at h
  rw [Kl, Tl, e2]
  exact h
 rw [Pq, Tn, Ac, hs, Bap (by omega) (by omega), Aa, Cp (by rw [Ba]; simp), Aa]
 rw [Ac, hs] at e1
 rw [Ac, hs] at e2
 have hz1 : (List.replicate (Int.toNat (ch : Int)) (0 : Int32)).length = ch := by simp
 have hs1 := g32 (l := seg) (k := ch - 1) (by omega)
 rw [e1, hs1, Aa, g32 (by omega), Aa, Aap _ (by omega), Aa]
 by_cases hc : 1 < ch
 ·rw [if_pos hc] at hlast
  have e3 : ((ch - 1 : Nat) : Int) - 1 = ((ch - 2 : Nat) : Int) := by omega
  have hs2 := g32 (l := seg) (k := ch - 2) (by omega)
  rw [if_pos (by rw [As]; simp; omega), Aa, e2, e3, hs2, Aa, Bpp, Aa, g32 (by rw [List.length_set]; omega), Aa, Aap _ (by rw [List.length_set]; omega), Aa]
  refine hend _ (by simp) ?_
  rw [hlast, Bjp _ (by rw [List.length_set]; omega)]
 ·rw [if_neg hc] at hlast
  rw [if_neg (by rw [As]; simp; omega)]
  refine hend _ (by simp) ?_
  rw [hlast, Bjp _ (by omega)]
theorem Bwc (ch : Nat) (m : List Int32) (h1 : 1 ≤ ch) (h6 : ch ≤ 6) (hm : m.length % ch = 0) (hl2 : m.length ≤ 4000) : Nb (ch : Int) m = some 0 := by
 rw [Nb, if_neg (by simp [Af, As]; omega), if_neg (by rw [As, Ac]; simp; omega), Cp (by rw [Am]; simp; omega), Aa, if_neg]
 rw [As, Ig, Ac, ← Int.ofNat_tmod, hm]; simp
theorem Axx (ch : Nat) (m : List Int32) (h1 : 1 ≤ ch) (h6 : ch ≤ 6) (hm : m.length % ch = 0) (hl2 : m.length ≤ 4000) : ∀ (j at' q : Nat), at' % ch = 0 → at' ≤ m.length → m.length - at' ≤ j → j < q →
  Kb (ch : Int) m q (at' : Int) ((unm ch m).take at') = some (unm ch m, 0)
 | j, at', q + 1, ha, hle, hj, hq => by
  have hlen := Asv ch m
  rw [Kb, Yi]
  by_cases h : at' < m.length
  ·have hb := Bh2 ha hm h
   have e4 : Ae (at' : Int) (ch : Int) = ((at' + ch : Nat) : Int) := by rw [Ah (by omega) (by omega)]; omega
   have hrest := Axx ch m h1 h6 hm hl2 (j - 1) (at' + ch) q (by rw [Nat.add_mod_right, ha]) hb (by omega) (by omega)
   have hseg : ((m.take (at' + ch)).drop at').length = ch := by simp; omega
   have htl : ((unm ch m).take at').length = at' := by simp [hlen]; omega
   rw [if_pos (by rw [Af, Ac]; simp; omega), e4, Aft (by omega) (by omega) (by omega), Aa, show ((at' + ch : Nat) : Int).toNat = at' + ch from rfl, show (at' : Int).toNat = at' from rfl, Bkd _ ch h1 h6 hseg, Aa, Ca (by rw [htl, Aoi]; omega), Aa]
   have e : (unm ch m).take at' ++ Awu (fun i => ((m.take (at' + ch)).drop at').getD i 0) ch = (unm ch m).take (at' + ch) := by
    apply List.ext_getElem (by rw [List.length_append, htl, Aoi, List.length_take, hlen]; omega)
    intro k k1 k2
    rw [List.length_take, hlen] at k2
    rw [List.getElem_append, List.getElem_take]
    by_cases hk : k < at'
    ·rw [dif_pos (by rw [htl]; exact hk), List.getElem_take]
    ·rw [dif_neg (by rw [htl]; exact hk)]
     have hu := Ay3 (m := m) ha (show k - at' < ch by omega) (by omega)
     rw [show at' + (k - at') = k by omega, Nh (by omega)] at hu
     have hx : ∀ n, n ≤ ch → unV (fun i => ((m.take (at' + ch)).drop at').getD i 0) ch n = unV (fun i => m.getD (at' + i) 0) ch n := by
      have hf : ∀ i, i < ch → ((m.take (at' + ch)).drop at').getD i 0 = m.getD (at' + i) 0 := by
       intro i hi
       rw [Nh (by omega), Nh (by omega)]; simp
      intro n
      induction n with
      | zero =>
       intro _; rw [unV, unV, hf _ (by omega)]; split
       ·rw [hf _ (by omega)]
       ·rfl
      | succ n ih => intro hn; rw [unV, unV, ih (by omega), hf _ (by omega)]
     have hy := Awc (fun i => ((m.take (at' + ch)).drop at').getD i 0) (show k - at' < ch by omega)
     rw [Nh (by rw [Aoi]; omega)] at hy
     rw [hu, ← hx _ (by omega), ← hy]
     congr 1
     rw [htl]
   rw [e]
   exact hrest
  ·rw [if_neg (by rw [Af, Ac]; simp; omega), List.take_of_length_le (by omega)]; rfl
theorem Bpz (ch : Nat) (m : List Int32) (h1 : 1 ≤ ch) (h6 : ch ≤ 6) (hm : m.length % ch = 0) (hl2 : m.length ≤ 4000) : Xt (ch : Int) m = some (unm ch m, 0) := by
 have h := Axx ch m h1 h6 hm hl2 m.length 0 Au (by simp) (by omega) (by omega) (by have := Aq; omega)
 rw [Xt, Zn, Bwc ch m h1 h6 hm hl2, Aa, if_neg (by rw [Am]; simp)]
 exact h
end Go.Pl
set_option linter.unusedVariables false
set_option linter.unusedSimpArgs false
namespace Go.Pl
open Go Go.Lv
def pre {α : Type} (ch c : Nat) (f : α → Nat → α) (a0 : α) : Nat → α
 | 0 => a0
 | m + 1 => if m % ch = c then f (pre ch c f a0 m) m else pre ch c f a0 m
theorem Bmc {α : Type} (ch c : Nat) (f : α → Nat → α) (a0 : α) : ∀ m, m ≤ c → c < ch → pre ch c f a0 m = a0
 | 0, _, _ => rfl
 | m + 1, h, h2 => by rw [pre, if_neg (by rw [Nat.mod_eq_of_lt (by omega)]; omega), Bmc ch c f a0 m (by omega) h2]
theorem Bj4 {α : Type} (ch c i : Nat) (f : α → Nat → α) (a0 : α) (hi : i % ch = c) (hc : c < ch) : ∀ j, j < ch → pre ch c f a0 (i + 1 + j) = pre ch c f a0 (i + 1)
 | 0, _ => rfl
 | j + 1, h => by
  have hne : (i + 1 + j) % ch ≠ c := by
   intro e
   have h1 : (i + (1 + j)) % ch = i % ch := by rw [hi, ← e]; congr 1; omega
   have h2 : (1 + j) % ch = 0 := by
    have h3 := Nat.sub_mod_eq_zero_of_mod_eq h1
    rwa [Nat.add_sub_cancel_left] at h3
   rw [Nat.mod_eq_of_lt (by omega)] at h2; omega
  rw [show i + 1 + (j + 1) = (i + 1 + j) + 1 by omega, pre, if_neg hne, Bj4 ch c i f a0 hi hc j (by omega)]
theorem Btm {α : Type} (ch c i : Nat) (f : α → Nat → α) (a0 : α) (hi : i % ch = c) (hc : c < ch) : pre ch c f a0 (i + ch) = f (pre ch c f a0 i) i := by
 have h := Bj4 ch c i f a0 hi hc (ch - 1) (by omega)
 rw [show i + 1 + (ch - 1) = i + ch by omega] at h
 rw [h, pre, if_pos hi]
abbrev CS := Int32 × List Int32 × List Int32
def Bsu (bits : Int) (s : CS) (y : Int32) : Int32 := y + gF (sB bits) s.2.1 s.2.2 + gs (shB bits) s.1
def Bm3 (bits : Int) (s : CS) (y : Int32) : CS := (Bsu bits s y, lrn s.2.1 s.2.2 y, (y + gF (sB bits) s.2.1 s.2.2) :: s.2.2.take 15)
def cst (bits : Int) (ch : Nat) (t : List Int32) (v : List UInt32) (c : Nat) : Nat → CS := pre ch c (fun s i => Bm3 bits s (Aqf (v.getD i 0))) (0, t, List.replicate 16 0)
def OkC (bits : Int) (s : CS) : Prop := OkF (sB bits) s.2.1 s.2.2
theorem Bl0 (bits : Int) (ch : Nat) {t : List Int32} (ht : t.length = 16) (v : List UInt32) (c : Nat) : ∀ m, OkC bits (cst bits ch t v c m)
 | 0 => ⟨Bz3 bits, ht, by simp [cst, pre]⟩
 | m + 1 => by
  have ih := Bl0 bits ch ht v c m
  rw [cst, pre]
  split
  ·exact Bqx ih _ _
  ·exact ih
def smp (bits : Int) (ch : Nat) (t : List Int32) (v : List UInt32) : List Int32 := (List.range v.length).map fun i => Bsu bits (cst bits ch t v (i % ch) i) (Aqf (v.getD i 0))
theorem As7 (bits : Int) (ch : Nat) (t : List Int32) (v : List UInt32) : (smp bits ch t v).length = v.length := by simp [smp]
theorem Bn1 (bits : Int) (ch : Nat) (t : List Int32) (v : List UInt32) {i : Nat} (h : i < v.length) : (smp bits ch t v).getD i 0 = Bsu bits (cst bits ch t v (i % ch) i) (Aqf (v.getD i 0)) := by
 rw [Nh (by rw [As7]; exact h)]; simp [smp]
abbrev CL := Int × Int32 × (Int × (List Int32) × (List Int32) × Unit) × Unit
def toC (bits : Int) (s : CS) : CL := (bits, s.1, (sB bits, s.2.1, s.2.2, ()), ())
def cts (bits : Int) (ch : Nat) (t : List Int32) (v : List UInt32) (i : Nat) : List CL := (List.range 6).map fun c => toC bits (cst bits ch t v c i)
theorem Buu {bits : Int} {ch : Nat} {t : List Int32} {v : List UInt32} {i c : Nat} (h : c < 6) : Ak (cts bits ch t v i) (c : Int) = some (toC bits (cst bits ch t v c i)) := by
 rw [Cq (by simp [cts]; exact h)]; simp [cts]
theorem Bjc (bits : Int) (ch : Nat) (t : List Int32) (v : List UInt32) (c m : Nat) : cst bits ch t v c (m + 1) = if m % ch = c then Bm3 bits (cst bits ch t v c m) (Aqf (v.getD m 0)) else cst bits ch t v c m := rfl
theorem Bvz {bits : Int} {ch : Nat} {t : List Int32} {v : List UInt32} {i c : Nat} (h : c < 6) (hc : i % ch = c) : Tp (cts bits ch t v i) (c : Int) (toC bits (Bm3 bits (cst bits ch t v c i) (Aqf (v.getD i 0)))) = some (cts bits ch t v (i + 1)) := by
 rw [Aap _ (by simp [cts]; exact h)]
 congr 1
 apply List.ext_getElem (by simp [cts])
 intro k h1 h2
 rw [List.getElem_set]
 simp only [cts, List.getElem_map, List.getElem_range]
 by_cases hk : c = k
 ·subst hk; rw [if_pos rfl, Bjc, if_pos hc]
 ·rw [if_neg hk, Bjc, if_neg (by omega)]
section
variable {bits : Int} {ch : Nat} {t : List Int32} {v : List UInt32}
theorem Bh3 (hb : Dj bits) (ht : t.length = 16) (h1 : 1 ≤ ch) (h6 : ch ≤ 6) (hv : v.length ≤ 4000) : ∀ (j i q : Nat), i + j = v.length → j < q →
  Is v (ch : Int) bits q (i : Int) (cts bits ch t v i) ((smp bits ch t v).take i) = Lo (ch : Int) bits (smp bits ch t v)
 | 0, i, q + 1, hi, _ => by
  rw [Is, Li, if_neg (by rw [Af, Ac]; simp; omega), List.take_of_length_le (by rw [As7]; omega)]
 | j + 1, i, q + 1, hi, hq => by
  have hlen := As7 bits ch t v
  have hc : i % ch < 6 := Nat.lt_of_lt_of_le (Nat.mod_lt _ (by omega)) h6
  have hok := Bl0 bits ch ht v (i % ch) i
  have hs := Bvz (bits := bits) (ch := ch) (t := t) (v := v) (i := i) hc rfl
  have hx := Bn1 bits ch t v (i := i) (by omega)
  have hcb := Bpi hb hok (cst bits ch t v (i % ch) i).1 (Aqf (v.getD i 0))
  have ih := Bh3 hb ht h1 h6 hv j (i + 1) q (by omega) (by omega)
  rw [Aog (by omega), ← Nh (by omega), hx] at ih
  rw [Is, Li, if_pos (by rw [Af, Ac]; simp; omega), Az9 (by omega), Aa, Cp (by rw [Am]; simp; omega), Aa, Baa, Buu hc, Aa, Aa, Brt, Aa]
  refine Eq.trans (congrArg (fun o => Option.bind o _) hcb) ?_
  rw [Aa]
  simp only
  rw [Aan, Aiy, if_neg (by rw [Am]; simp), Baa]
  refine Eq.trans (congrArg (fun o => Option.bind o _) hs) ?_
  rw [Aa, Ca (by simp; omega), Aa, Ah (by omega) (by omega)]
  exact ih
theorem Bob (hb : Dj bits) (ht : t.length = 16) (h1 : 1 ≤ ch) (h6 : ch ≤ 6) (hv : v.length ≤ 4000) : Ve (ch : Int) bits t v = Lo (ch : Int) bits (smp bits ch t v) := by
 have h := Bh3 hb ht h1 h6 hv v.length 0 Au (by omega) (by have := Aq; omega)
 have e : Au = (Au - 7) + 1 + 1 + 1 + 1 + 1 + 1 + 1 := by have := Aq; omega
 have hs : Rb v (ch : Int) bits t 0 (List.replicate 6 ((0 : Int), (0 : Int32), ((0 : Int), (List.replicate 16 (0 : Int32)), (List.replicate 16 (0 : Int32)), ()), ())) = Aao v (ch : Int) bits (cts bits ch t v 0) := by
  rw [Rb, e]
  obtain rfl | rfl | rfl := hb <;> rfl
 rw [Ve, Ab7, hs]
 exact h
theorem Bda (bk : Int → List Int32 → Option (List Int32)) (hb : Dj bits) (ht : t.length = 16) (h1 : 1 ≤ ch) (h6 : ch ≤ 6) (hv : v.length ≤ 4000) (z : List Int32) (c : Nat) (hc : c < ch) : ∀ (j i q : Nat), i % ch = c → v.length - i ≤ j → i ≤ 5000 → j < q →
  Hj bk v (ch : Int) bits t (c : Int) q (i : Int) (sel (fun k => decide (k % ch < c ∨ (k % ch = c ∧ k < i))) (smp bits ch t v) z) bits (cst bits ch t v c i).1 (sB bits) (cst bits ch t v c i).2.1 (cst bits ch t v c i).2.2 =
   bk ((c + 1 : Nat) : Int) (sel (fun k => decide (k % ch < c + 1)) (smp bits ch t v) z)
 | j, i, q + 1, hi, hj, hi5, hq => by
  have hlen := As7 bits ch t v
  rw [Hj, Kt]
  by_cases h : i < v.length
  ·have hok := Bl0 bits ch ht v c i
   have hst := Bow hb hok (cst bits ch t v c i).1 (Aqf (v.getD i 0))
   have hx := Bn1 bits ch t v (i := i) h
   rw [hi] at hx
   have ih := Bda bk hb ht h1 h6 hv z c hc (j - 1) (i + ch) q (by rw [Nat.add_mod_right]; exact hi) (by omega) (by omega) (by omega)
   have hstep : cst bits ch t v c (i + ch) = Bm3 bits (cst bits ch t v c i) (Aqf (v.getD i 0)) := Btm ch c i _ _ hi hc
   rw [hstep] at ih
   have hset := Awa (p := fun k => decide (k % ch < c ∨ (k % ch = c ∧ k < i))) (a := smp bits ch t v) (b := z) (k := i) (by omega)
   rw [hx] at hset
   have hcong : sel (fun j => decide (j % ch < c ∨ (j % ch = c ∧ j < i)) || decide (j = i)) (smp bits ch t v) z = sel (fun k => decide (k % ch < c ∨ (k % ch = c ∧ k < i + ch))) (smp bits ch t v) z := by
    apply Acn
    intro k _
    rw [Bool.eq_iff_iff]
    simp only [Bool.or_eq_true, decide_eq_true_eq]
    constructor
    ·rintro ((h1 | h1) | h1)
     ·exact .inl h1
     ·exact .inr ⟨h1.1, by omega⟩
     ·subst h1; exact .inr ⟨hi, by omega⟩
    ·rintro (h1 | ⟨h1, h2⟩)
     ·exact .inl (.inl h1)
     ·by_cases h3 : k < i
      ·exact .inl (.inr ⟨h1, h3⟩)
      ·refine .inr ?_
       have h4 : (i + (k - i)) % ch = i % ch := by rw [show i + (k - i) = k by omega, h1, hi]
       have h5 := Nat.sub_mod_eq_zero_of_mod_eq h4
       rw [Nat.add_sub_cancel_left, Nat.mod_eq_of_lt (by omega)] at h5
       omega
   rw [hcong] at hset
   rw [if_pos (by rw [Af, Ac]; simp; omega), Az9 h, Aa, Bv9, Aa]
   refine Eq.trans (congrArg (fun o => Option.bind o _) hst) ?_
   rw [Aa]
   simp only
   rw [Sp, Sr, Amh (by omega), Aa]
   refine Eq.trans (congrArg (fun o => Option.bind o _) hset) ?_
   rw [Aa, Sf, Aca, Ah (by omega) (by omega)]
   exact ih
  ·rw [if_neg (by rw [Af, Ac]; simp; omega), Tg, Acu, Ah (by omega) (by omega)]
   have hcong : sel (fun k => decide (k % ch < c ∨ (k % ch = c ∧ k < i))) (smp bits ch t v) z = sel (fun k => decide (k % ch < c + 1)) (smp bits ch t v) z := by
    apply Acn
    intro k hk
    rw [Bool.eq_iff_iff]
    simp only [decide_eq_true_eq]
    omega
   rw [hcong]; rfl
theorem Bc3 (hb : Dj bits) (ht : t.length = 16) (h1 : 1 ≤ ch) (h6 : ch ≤ 6) (hv : v.length ≤ 4000) (z : List Int32) : ∀ (j c q : Nat), c + j = ch → j < q →
  De v (ch : Int) bits t q (c : Int) (sel (fun k => decide (k % ch < c)) (smp bits ch t v) z) = Ko (ch : Int) bits (smp bits ch t v)
 | 0, c, q + 1, hc, _ => by
  rw [De, Kq, if_neg (by rw [Af]; simp; omega), Avb (fun k hk => by have := Nat.mod_lt k (show 0 < ch by omega); simp; omega)]
 | j + 1, c, q + 1, hc, hq => by
  have ih := Bc3 hb ht h1 h6 hv z j (c + 1) q (by omega) (by omega)
  have hin := Bda (De v (ch : Int) bits t q) hb ht h1 h6 hv z c (by omega) v.length c Au (Nat.mod_eq_of_lt (by omega)) (by omega) (by omega) (by have := Aq; omega)
  have h0 : cst bits ch t v c c = (0, t, List.replicate 16 0) := Bmc ch c _ _ c (Nat.le_refl _) (by omega)
  rw [h0] at hin
  have hcong : sel (fun k => decide (k % ch < c ∨ (k % ch = c ∧ k < c))) (smp bits ch t v) z = sel (fun k => decide (k % ch < c)) (smp bits ch t v) z := by
   apply Acn
   intro k hk
   have := Nat.mod_le k ch
   rw [Bool.eq_iff_iff]
   simp only [decide_eq_true_eq]
   omega
  rw [hcong] at hin
  rw [De, Kq, if_pos (by rw [Af]; simp; omega), Cac hb, Aa]
  simp only
  rw [Sj]
  exact Eq.trans hin ih
theorem Bof (hb : Dj bits) (ht : t.length = 16) (h1 : 1 ≤ ch) (h6 : ch ≤ 6) (hv : v.length ≤ 4000) (hm : v.length % ch = 0) : Ir (ch : Int) bits t v = some (unm ch (smp bits ch t v)) := by
 have hlen := As7 bits ch t v
 have h := Bc3 hb ht h1 h6 hv (List.replicate v.length 0) ch 0 Au (by omega) (by have := Aq; omega)
 rw [Avj (by rw [hlen]; simp) (fun k _ => by simp)] at h
 rw [Ir, Ut, Ac, Bap (by omega) (by omega), Aa, Cp (by rw [Ba]; simp), Aa, Sd]
 refine Eq.trans h ?_
 rw [Ko, Acz, Bpz ch _ h1 h6 (by rw [hlen]; exact hm) (by omega), Aa]
end
def hB (bits : Int) : Int := if bits = 8 then 128 else if bits = 16 then 32768 else 8388608
theorem Br7 {bits : Int} (h : Dj bits) : Ag4 bits = some (Int32.ofInt (-(hB bits)), Int32.ofInt (hB bits - 1), 0) := by
 obtain rfl | rfl | rfl := h <;> decide
theorem Bcb {bits : Int} (h : Dj bits) : Kw bits = some (hB bits) := by
 obtain rfl | rfl | rfl := h <;> rfl
theorem Aw0 (bits : Int) : 0 < hB bits ∧ hB bits ≤ 8388608 := by
 unfold hB; split; · omega
 ·split <;> omega
theorem Bbh {bits : Int} (h : Dj bits) (l : List Int32) (hl : l.length ≤ 4000) : ∀ (j i q : Nat), i + j = l.length → j < q →
  To (Int32.ofInt (-(hB bits))) (Int32.ofInt (hB bits - 1)) l q (i : Int) = Be l (hB bits) q (i : Int)
 | 0, i, q + 1, hi, _ => by
  rw [To, Aew, Be, Db, if_neg (by rw [Af, Ac]; simp; omega), if_neg (by rw [Af, Ac]; simp; omega)]; rfl
 | j + 1, i, q + 1, hi, hq => by
  have hh := Aw0 bits
  have ih := Bbh h l hl j (i + 1) q (by omega) (by omega)
  have e1 : (Int32.ofInt (-(hB bits))).toInt = -(hB bits) := by rw [Int32.toInt_ofInt, Int.bmod_eq_of_le (by show -(4294967296 / 2 : Int) ≤ _; omega) (by show _ < (4294967296 + 1) / 2; omega)]
  have e2 : (Int32.ofInt (hB bits - 1)).toInt = hB bits - 1 := by rw [Int32.toInt_ofInt, Int.bmod_eq_of_le (by show -(4294967296 / 2 : Int) ≤ _; omega) (by show _ < (4294967296 + 1) / 2; omega)]
  rw [To, Aew, Be, Db, if_pos (by rw [Af, Ac]; simp; omega), if_pos (by rw [Af, Ac]; simp; omega), g32 (by omega), Aa, Aa, Aa, En, Bk9, Ce (by omega) (by omega), Ah (by omega) (by omega), Bfg, Bly, e1, e2, Af, Dt]
  generalize (l.getD i 0).toInt = X
  by_cases h1 : X < -(hB bits)
  ·rw [if_pos (by simp; omega), if_pos (by simp; omega)]
  ·rw [if_neg (c := decide (X < 0 - hB bits) = true) (by simp; omega)]
   by_cases h2 : hB bits ≤ X
   ·rw [if_pos (by simp; omega), if_pos (by simp; omega)]
   ·rw [if_neg (by simp; omega), if_neg (by simp; omega)]; exact ih
theorem Bb0 {bits : Int} (h : Dj bits) (l : List Int32) (hl : l.length ≤ 4000) : Ahk bits l = Bg bits l := by
 have hh := Aw0 bits
 rw [Ahk, Aj3, Br7 h, Aa, Bg, Gd, Bcb h, Aa]
 simp only
 rw [if_neg (by rw [Am]; simp), if_neg (by rw [As, Ac]; simp; omega), if_neg (by rw [Ba]; simp; omega), if_neg (by rw [As, Ac]; simp; omega)]
 exact Bbh h l hl l.length 0 Au (by omega) (by have := Aq; omega)
theorem Bkn {bits : Int} (h : Dj bits) (l : List Int32) (hl : l.length ≤ 4000) : ∃ e, Bg bits l = some e := by
 have hh := Aw0 bits
 have key : ∀ (j i q : Nat), i + j = l.length → j < q → ∃ e, Be l (hB bits) q (i : Int) = some e := by
  intro j
  induction j with
  | zero =>
   intro i q hi hq
   obtain ⟨q, rfl⟩ : ∃ k, q = k + 1 := ⟨q - 1, by omega⟩
   rw [Be, Db, if_neg (by rw [Af, Ac]; simp; omega)]
   exact ⟨_, rfl⟩
  | succ j ih =>
   intro i q hi hq
   obtain ⟨q, rfl⟩ : ∃ k, q = k + 1 := ⟨q - 1, by omega⟩
   rw [Be, Db, if_pos (by rw [Af, Ac]; simp; omega), g32 (by omega), Aa, Aa, Ah (by omega) (by omega)]
   split
   ·exact ⟨_, rfl⟩
   ·split
    ·exact ⟨_, rfl⟩
    ·exact ih (i + 1) q (by omega) (by omega)
 obtain ⟨e, he⟩ := key l.length 0 Au (by omega) (by have := Aq; omega)
 rw [Bg, Gd, Bcb h, Aa, if_neg (by rw [Ba]; simp; omega), if_neg (by rw [As, Ac]; simp; omega)]
 exact ⟨e, he⟩
theorem Avn {bits : Int} {ch : Nat} {t : List Int32} {v : List UInt32} (hb : Dj bits) (ht : t.length = 16) (h1 : 1 ≤ ch) (h6 : ch ≤ 6) (hv : v.length ≤ 4000) (hm : v.length % ch = 0) :
  ∃ l e, Ir (ch : Int) bits t v = some l ∧ Lm (ch : Int) bits l = some (if e ≠ 0 then ([], e) else (l, 0)) ∧ Ve (ch : Int) bits t v = some (if e ≠ 0 then ([], e) else (l, 0)) ∧ Bg bits l = some e ∧ l.length = v.length := by
 have hlen := As7 bits ch t v
 have hul := Asv ch (smp bits ch t v)
 obtain ⟨e, he⟩ := Bkn hb (unm ch (smp bits ch t v)) (by omega)
 refine ⟨unm ch (smp bits ch t v), e, Bof hb ht h1 h6 hv hm, ?_, ?_, he, by omega⟩
 ·rw [Lm, he, Aa]
  by_cases h : e = 0
  ·rw [if_neg (by rw [Am]; simpa using h), if_neg (by simpa using h)]
  ·rw [if_pos (by rw [Am]; simpa using h), if_pos h]
 ·rw [Bob hb ht h1 h6 hv, Lo, Ajd, Bvn ch _ h1 h6 (by rw [hlen]; exact hm) (by omega), Aa]
  simp only
  rw [if_neg (by rw [Am]; simp), Bb0 hb _ (by omega), he, Aa]
  by_cases h : e = 0
  ·rw [if_neg (by rw [Am]; simpa using h), if_neg (by simpa using h)]
  ·rw [if_pos (by rw [Am]; simpa using h), if_pos h]
end Go.Pl
set_option linter.unusedVariables false
set_option linter.unusedSimpArgs false
namespace Go.Pl
open Go Go.Lv
def Aq7 (s : Nat) : Nat := (s / 2) ^^^ (if s % 2 = 1 then 3988292384 else 0)
theorem Bab {s : Nat} (h : s < 4294967296) : Aq7 s < 4294967296 := by
 unfold Aq7
 exact Nat.xor_lt_two_pow (n := 32) (by simp; omega) (by split <;> decide)
theorem Biy (x y : Nat) : (x ^^^ y) / 2 = (x / 2) ^^^ (y / 2) := by
 have := Nat.shiftRight_xor_distrib (a := x) (b := y) (i := 1)
 simpa [Nat.shiftRight_eq_div_pow] using this
theorem Bp1 (x y : Nat) : Aq7 (x ^^^ y) = Aq7 x ^^^ Aq7 y := by
 have h : (x ^^^ y) % 2 = (x % 2 + y % 2) % 2 := by
  have := Nat.xor_mod_two_eq_one (a := x) (b := y)
  have h1 : (x ^^^ y) % 2 < 2 := Nat.mod_lt _ (by omega)
  omega
 simp only [Aq7, Biy, h]
 have hx : x % 2 = 0 ∨ x % 2 = 1 := by omega
 have hy : y % 2 = 0 ∨ y % 2 = 1 := by omega
 rcases hx with hx | hx <;> rcases hy with hy | hy <;> simp only [hx, hy] <;> simp
 ·rw [Nat.xor_assoc]
 ·rw [Nat.xor_assoc, Nat.xor_comm (y / 2), Nat.xor_assoc, Nat.xor_comm 3988292384 (y/2)]
 ·rw [Nat.xor_assoc, Nat.xor_comm 3988292384, Nat.xor_assoc, Nat.xor_self]; simp
def Aai : Nat → Nat → Nat
 | 0, s => s
 | k + 1, s => Aai k (Aq7 s)
theorem Bdo : ∀ (k x y : Nat), Aai k (x ^^^ y) = Aai k x ^^^ Aai k y
 | 0, _, _ => rfl
 | k + 1, x, y => by rw [Aai, Bp1, Bdo k]; rfl
theorem Bea : ∀ (k h : Nat), Aai k (2 ^ k * h) = h
 | 0, h => by simp [Aai]
 | k + 1, h => by
  have : Aq7 (2 ^ (k + 1) * h) = 2 ^ k * h := by
   rw [Nat.pow_succ, Nat.mul_comm (2 ^ k) 2, Nat.mul_assoc, Aq7, if_neg (by omega), Nat.mul_div_cancel_left _ (by omega)]; simp
  rw [Aai, this, Bea k]
theorem Bav : ∀ (k : Nat) {s : Nat}, s < 4294967296 → Aai k s < 4294967296
 | 0, _, h => h
 | k + 1, _, h => Bav k (Bab h)
def Ax0 (s c : Nat) : Nat := Aai 8 (s ^^^ c)
theorem Bb6 {s c : Nat} (h : s < 4294967296) (hc : c < 256) : Ax0 s c < 4294967296 := Bav 8 (Nat.xor_lt_two_pow (n := 32) (by simpa using h) (by simp; omega))
theorem Bhs {s c : Nat} (hc : c < 256) : Ax0 s c = (s / 256) ^^^ Aai 8 ((s % 256) ^^^ c) := by
 have h : s = (2 ^ 8 * (s / 256)) ^^^ (s % 256) := by
  have h1 : s % 256 < 2 ^ 8 := by simpa using Nat.mod_lt s (by omega : 256 > 0)
  have := Nat.two_pow_add_eq_or_of_lt h1 (s / 256)
  have h2 : 2 ^ 8 * (s / 256) ||| s % 256 = (2 ^ 8 * (s / 256)) ^^^ (s % 256) := by
   apply Nat.eq_of_testBit_eq; intro i
   rw [Nat.testBit_or, Nat.testBit_xor]
   by_cases hi : i < 8
   ·have : (2 ^ 8 * (s / 256)).testBit i = false := by rw [Nat.testBit_two_pow_mul]; simp; omega
    rw [this]; simp
   ·have : (s % 256).testBit i = false := Nat.testBit_lt_two_pow (Nat.lt_of_lt_of_le h1 (Nat.pow_le_pow_right (by omega) (by omega)))
    rw [this]; simp
  omega
 rw [Ax0]
 conv => lhs; rw [h]
 rw [Nat.xor_assoc, Bdo, Bea]
def Boz (s : Nat) (l : List UInt8) : Nat := l.foldl (fun s c => Ax0 s c.toNat) s
def Io (b : List UInt8) : UInt32 := 4294967295 - UInt32.ofNat (Boz 4294967295 b)
theorem Bwg (s : UInt32) (c : Nat) (hc : c < 256) : Xk s (Ad (Abv (UInt8.ofNat c) (2 : UInt8)) : Int) = some (UInt32.ofNat (s.toNat / 2 ^^^ (if (s.toNat ^^^ c) % 2 = 1 then 3988292384 else 0))) := by
 have h1 : (Ad (Abv (UInt8.ofNat c) (2 : UInt8)) : Int) = ((c % 2 : Nat) : Int) := by
  rw [Aj0, Buw, UInt8.toNat_mod, UInt8.toNat_ofNat']
  show ((c % 256 % 2 : Nat) : Int) = _
  omega
 have h2 : geq (Abv s (2 : UInt32)) (1 : UInt32) = decide (s.toNat % 2 = 1) := by
  rw [Bfm, Bic, Bool.eq_iff_iff]
  simp only [beq_iff_eq, decide_eq_true_eq]
  rw [← UInt32.toNat_inj, UInt32.toNat_mod]; rfl
 have h3 : Cn s (2 : UInt32) = UInt32.ofNat (s.toNat / 2) := by
  apply UInt32.toNat_inj.1
  rw [Bhh, UInt32.toNat_div, UInt32.toNat_ofNat']
  show s.toNat / 2 = _
  have := s.toNat_lt
  omega
 have h4 : Abg (Cn s (2 : UInt32)) (3988292384 : UInt32) = UInt32.ofNat (s.toNat / 2 ^^^ 3988292384) := by
  apply UInt32.toNat_inj.1
  rw [h3, Awb, UInt32.toNat_xor, UInt32.toNat_ofNat', UInt32.toNat_ofNat']
  have := s.toNat_lt
  rw [Nat.mod_eq_of_lt (a := s.toNat / 2) (by omega), Nat.mod_eq_of_lt]
  ·rfl
  ·exact Nat.xor_lt_two_pow (n := 32) (by omega) (by decide)
 have hx : (s.toNat ^^^ c) % 2 = (s.toNat % 2 + c % 2) % 2 := by
  have := Nat.xor_mod_two_eq_one (a := s.toNat) (b := c)
  have h1 : (s.toNat ^^^ c) % 2 < 2 := Nat.mod_lt _ (by omega)
  omega
 have hs : s.toNat % 2 = 0 ∨ s.toNat % 2 = 1 := by omega
 have hc2 : c % 2 = 0 ∨ c % 2 = 1 := by omega
 rw [Xk, Yg, h1, h2, hx]
 rcases hs with hs | hs <;> rcases hc2 with hc2 | hc2 <;> simp [hs, hc2, Ba, Zh, Ahj, Awb, h3]
theorem Ayg : ∀ (j i q : Nat) (s : UInt32) (c : Nat), i + j = 8 → j < q → c < 2 ^ j → Hh q s (UInt8.ofNat c) (i : Int) = some (UInt32.ofNat (Aai j (s.toNat ^^^ c)))
 | 0, i, q + 1, s, c, hi, _, hc => by
  obtain rfl : i = 8 := by omega
  obtain rfl : c = 0 := by simpa using hc
  rw [Hh, Pj, if_neg (by rw [Af]; simp), Yz, Ag3, Aai]
  simp
 | j + 1, i, q + 1, s, c, hi, hq, hc => by
  have hc8 : c < 256 := Nat.lt_of_lt_of_le hc (show 2 ^ (j + 1) ≤ 2 ^ 8 from Nat.pow_le_pow_right (by omega) (by omega))
  rw [Hh, Pj, if_pos (by rw [Af]; simp; omega), Bwg s c hc8, Aa, Ah (by omega) (by omega)]
  have e : Cn (UInt8.ofNat c) (2 : UInt8) = UInt8.ofNat (c / 2) := by
   apply UInt8.toNat_inj.1
   rw [Bvg, UInt8.toNat_div, UInt8.toNat_ofNat', UInt8.toNat_ofNat']
   show c % 256 / 2 = _
   omega
  rw [e]
  have h := Ayg j (i + 1) q (UInt32.ofNat (s.toNat / 2 ^^^ (if (s.toNat ^^^ c) % 2 = 1 then 3988292384 else 0))) (c / 2) (by omega) (by omega) (by rw [Nat.pow_succ] at hc; omega)
  rw [show ((i : Int) + 1) = ((i + 1 : Nat) : Int) by omega, h, UInt32.toNat_ofNat', Aai]
  congr 3
  have := s.toNat_lt
  rw [Nat.mod_eq_of_lt, Aq7, Biy, Nat.xor_assoc, Nat.xor_assoc, Nat.xor_comm (c / 2)]
  exact Nat.xor_lt_two_pow (n := 32) (by omega) (by split <;> decide)
theorem Bwe (s : UInt32) (c : UInt8) : Adr s c = some (UInt32.ofNat (Ax0 s.toNat c.toNat)) := by
 have h := Ayg 8 0 Au s c.toNat (by omega) (by have := Aq; omega) (by simpa using c.toNat_lt)
 rw [UInt8.ofNat_toNat] at h
 exact h
theorem Atz (b : List UInt8) (hb : b.length < 4611686018427387904) : ∀ (j i q : Nat) (s : UInt32), i + j = b.length → j < q → Fg b q s (i : Int) = some (UInt32.ofNat (Boz s.toNat (b.drop i)))
 | 0, i, q + 1, s, hi, _ => by
  rw [Fg, Md, if_neg (by rw [Af, Ac]; simp; omega), show i = b.length by omega, List.drop_length]
  simp [Uc, Ado, Boz]
 | j + 1, i, q + 1, s, hi, hq => by
  have hlt : i < b.length := by omega
  rw [Fg, Md, if_pos (by rw [Af, Ac]; simp; omega), Cq hlt, Aa, Bwe, Aa, Ah (by omega) (by omega)]
  have h := Atz b hb j (i + 1) q (UInt32.ofNat (Ax0 s.toNat b[i].toNat)) (by omega) (by omega)
  rw [show ((i : Int) + 1) = ((i + 1 : Nat) : Int) by omega, h, drop_cons hlt, UInt32.toNat_ofNat', Nat.mod_eq_of_lt (Bb6 s.toNat_lt b[i].toNat_lt)]
  rfl
theorem Bs1 (b : List UInt8) (hb : b.length < 4611686018427387904) : Oq b = some (Io b) := by
 have h := Atz b hb b.length 0 Au 4294967295 (by omega) (by have := Aq; omega)
 rw [Oq, Aa3, Ul, Vc, show ((0 : Int)) = ((0 : Nat) : Int) from rfl, h, Aa, Bi5]; rfl
theorem Bva (c : UInt32) : Abg (Ci c (GI.toZ (1 : UInt64)).toNat) (Bq (3988292384 : UInt32) (Hr c (1 : UInt32))) = UInt32.ofNat (Aq7 c.toNat) := by
 apply UInt32.toNat_inj.1
 have e : (GI.toZ (1 : UInt64)).toNat = 1 := rfl
 have h1 : (Ci c 1).toNat = c.toNat / 2 := by rw [An1]
 have h2 : (Bq (3988292384 : UInt32) (Hr c (1 : UInt32))).toNat = if c.toNat % 2 = 1 then 3988292384 else 0 := by
  rw [Br9, Bh6, UInt32.toNat_mul, UInt32.toNat_and]
  show 3988292384 * (c.toNat &&& 1) % 4294967296 = _
  rw [Nat.and_one_is_mod]
  have : c.toNat % 2 = 0 ∨ c.toNat % 2 = 1 := by omega
  rcases this with h | h <;> simp [h]
 rw [e, Awb, UInt32.toNat_xor, h1, h2, UInt32.toNat_ofNat', Nat.mod_eq_of_lt (Bab c.toNat_lt)]; rfl
theorem Bjy (bk16 : Int → List UInt32 → Option (UInt32 × Int)) (s : UInt32) (b : List UInt8) (x : Int) (t : List UInt32) : ∀ (j i q : Nat) (c : UInt32), i + j = 8 → j < q →
  Sk bk16 s b x t q c (i : Int) = Ad0 bk16 s b x (UInt32.ofNat (Aai j c.toNat)) t
 | 0, i, q + 1, c, hi, _ => by
  obtain rfl : i = 8 := by omega
  rw [Sk, Ad7, if_neg (by rw [Af]; simp), Aai, UInt32.ofNat_toNat]
 | j + 1, i, q + 1, c, hi, hq => by
  rw [Sk, Ad7, if_pos (by rw [Af]; simp; omega), Bva, Ah (by omega) (by omega), show ((i : Int) + 1) = ((i + 1 : Nat) : Int) by omega, Bjy bk16 s b x t j (i + 1) q _ (by omega) (by omega), UInt32.toNat_ofNat', Nat.mod_eq_of_lt (Bab c.toNat_lt)]; rfl
def tbl (n : Nat) : List UInt32 := (List.range n).map fun i => UInt32.ofNat (Aai 8 i)
theorem Bmt (s : UInt32) (b : List UInt8) : ∀ (j i q : Nat), i + j = 256 → j < q → Na s b q (i : Int) (tbl i ++ List.replicate j 0) = Ac5 s b (tbl 256)
 | 0, i, q + 1, hi, _ => by
  obtain rfl : i = 256 := by omega
  rw [Na, Aee, if_neg (by rw [Af]; simp)]; simp
 | j + 1, i, q + 1, hi, hq => by
  have hlen : (tbl i ++ List.replicate (j + 1) 0).length = i + (j + 1) := by simp [tbl]
  rw [Na, Aee, if_pos (by rw [Af]; simp; omega), Akz]
  have h := Bjy (Na s b q) s b (i : Int) (tbl i ++ List.replicate (j + 1) 0) 8 0 Au (Ad (i : Int)) (by omega) (by have := Aq; omega)
  rw [show ((0 : Int)) = ((0 : Nat) : Int) from rfl, h, Ad0, Ak1, Cq (by rw [hlen]; omega), Aa, Aap _ (by rw [hlen]; omega), Aa, Alj, Ard, Ah (by omega) (by omega)]
  have e : (Ad (i : Int) : UInt32).toNat = i := by rw [Bdj, UInt32.toNat_ofNat', Nat.mod_eq_of_lt (by omega)]
  rw [e, List.replicate_succ, As5 (by simp [tbl])]
  have h2 := Bmt s b j (i + 1) q (by omega) (by omega)
  have h3 : tbl (i + 1) = tbl i ++ [UInt32.ofNat (Aai 8 i)] := by simp [tbl, List.range_succ]
  rw [h3] at h2
  rw [show ((i : Int) + 1) = ((i + 1 : Nat) : Int) by omega, ← h2]
  simp
theorem Bub {i : Nat} (h : i < 256) : Ak (tbl 256) (i : Int) = some (UInt32.ofNat (Aai 8 i)) := by
 rw [Cq (by simpa [tbl] using h)]; simp [tbl]
theorem Bq9 (s : UInt32) (c : UInt8) : Ak (tbl 256) (GI.toZ (Abg (Ad s : UInt8) c)) = some (UInt32.ofNat (Aai 8 ((s.toNat % 256) ^^^ c.toNat))) := by
 have e : GI.toZ (Abg (Ad s : UInt8) c) = (((s.toNat % 256) ^^^ c.toNat : Nat) : Int) := by
  rw [Ab9, Bl8, UInt8.toNat_xor, Aup, UInt8.toNat_ofNat']
 rw [e, Bub]
 exact Nat.xor_lt_two_pow (n := 8) (by simp; omega) (by simpa using c.toNat_lt)
theorem Bp6 (s : UInt32) (c : UInt8) : Abg (Ci s (GI.toZ (8 : UInt64)).toNat) (UInt32.ofNat (Aai 8 ((s.toNat % 256) ^^^ c.toNat))) = UInt32.ofNat (Ax0 s.toNat c.toNat) := by
 apply UInt32.toNat_inj.1
 have hlt : Aai 8 ((s.toNat % 256) ^^^ c.toNat) < 4294967296 := Bav 8 (Nat.xor_lt_two_pow (n := 32) (by simp; omega) (by have := c.toNat_lt; simp; omega))
 have e : (GI.toZ (8 : UInt64)).toNat = 8 := rfl
 rw [e, Awb, UInt32.toNat_xor, An1, UInt32.toNat_ofNat', UInt32.toNat_ofNat', Nat.mod_eq_of_lt hlt, Nat.mod_eq_of_lt (Bb6 s.toNat_lt c.toNat_lt), Bhs c.toNat_lt]
theorem Bi9 (b : List UInt8) (hb : b.length < 4611686018427387904) : ∀ (j i q : Nat) (s : UInt32), i + j = b.length → j < q → Sg b (tbl 256) q s (i : Int) = some (UInt32.ofNat (Boz s.toNat (b.drop i)), 0)
 | 0, i, q + 1, s, hi, _ => by
  rw [Sg, Ac9, if_neg (by rw [Af, Ac]; simp; omega), show i = b.length by omega, List.drop_length]
  simp [Aln, Ar0, Boz]
 | j + 1, i, q + 1, s, hi, hq => by
  have hlt : i < b.length := by omega
  rw [Sg, Ac9, if_pos (by rw [Af, Ac]; simp; omega), Cq hlt, Aa, Bq9, Aa, Aa, Bp6, Ah (by omega) (by omega)]
  have h := Bi9 b hb j (i + 1) q (UInt32.ofNat (Ax0 s.toNat b[i].toNat)) (by omega) (by omega)
  rw [show ((i : Int) + 1) = ((i + 1 : Nat) : Int) by omega, h, drop_cons hlt, UInt32.toNat_ofNat', Nat.mod_eq_of_lt (Bb6 s.toNat_lt b[i].toNat_lt)]
  rfl
theorem Bux (s : UInt32) (b : List UInt8) (hb : b.length ≤ 100000) : Aov s b = some (UInt32.ofNat (Boz s.toNat b), 0) := by
 have h := Bmt s b 256 0 Au (by omega) (by have := Aq; omega)
 have h2 := Bi9 b (by omega) b.length 0 Au s (by omega) (by have := Aq; omega)
 rw [Aov, Ams, if_neg (by rw [As, Ac]; simp; omega), Alk]
 refine Eq.trans h ?_
 rw [Ac5, Aj7, Alh, Akr, Ale]
 exact h2
theorem Bry (a : UInt32) : Bcf a = 4294967295 - a := by
 have h := a.toNat_lt
 have e : Bcf a = UInt32.ofNat (BitVec.ofInt 32 4294967295 ^^^ BitVec.ofInt 32 (a.toNat : Int)).toNat := Dx _
 apply UInt32.toNat_inj.1
 rw [e, UInt32.toNat_ofNat', UInt32.toNat_sub_of_le _ _ (by rw [UInt32.le_iff_toNat_le]; show a.toNat ≤ 4294967295; omega)]
 have h1 : BitVec.ofInt 32 (a.toNat : Int) = a.toBitVec := Bfl a
 have h2 : (BitVec.ofInt 32 4294967295 : BitVec 32) = BitVec.allOnes 32 := by decide
 rw [h1, h2, BitVec.allOnes_xor, BitVec.toNat_not]
 show (4294967296 - 1 - a.toNat) % 4294967296 = 4294967295 - a.toNat
 omega
theorem Blp (b : List UInt8) (hb : b.length ≤ 100000) : Ajt b = some (Io b, 0) := by
 rw [Ajt, Bux _ _ hb, Aa]
 simp only [Am, Bry]
 rfl
end Go.Pl
set_option linter.unusedVariables false
set_option linter.unusedSimpArgs false
namespace Go.Pl
open Go Go.Lv
theorem Bnw : ∀ {l m : List UInt8}, l.length = m.length → Dy l = Dy m → l = m
 | [], [], _, _ => rfl
 | x :: l, y :: m, h, e => by
  simp only [Dy] at e
  have hx := x.toNat_lt
  have hy := y.toNat_lt
  have h1 : x = y := UInt8.toNat_inj.1 (by omega)
  rw [h1, Bnw (l := l) (m := m) (by simpa using h) (by omega)]
theorem Bfn : ∀ (w n : Nat), Dy (leB n w) = n % 256 ^ w
 | 0, n => by simp [leB, Dy, Nat.mod_one]
 | w + 1, n => by
  rw [leB, Dy, Bfn w (n / 256), UInt8.toNat_ofNat', show (256 : Nat) ^ (w + 1) = 256 * 256 ^ w by rw [Nat.pow_succ, Nat.mul_comm], Nat.mod_mul]
def Xp (b : List UInt8) : Int :=
 if b.length < 5 then 24 else if 41254 < b.length then 4 else if (Io (b.take (b.length - 4))).toNat ≠ Dy (b.drop (b.length - 4)) then 22 else 0
theorem Bi1 (b : List UInt8) : Aeg b = some (if Xp b ≠ 0 then ([], Xp b) else (b.take (b.length - 4), 0)) := by
 rw [Aeg]
 by_cases h1 : b.length < 5
 ·have hS : Xp b = 24 := by rw [Xp, if_pos h1]
  rw [if_pos (by rw [Af, Ac]; simp; omega), hS]; rfl
 rw [if_neg (by rw [Af, Ac]; simp; omega)]
 by_cases h2 : 41254 < b.length
 ·have hS : Xp b = 4 := by rw [Xp, if_neg h1, if_pos h2]
  rw [if_pos (by rw [As, Ac]; simp; omega), hS]; rfl
 have e4 : Al (Ac b) 4 = ((b.length - 4 : Nat) : Int) := by rw [Ac, Bh (by omega) (by omega)]; omega
 have hd : (b.drop (b.length - 4)).length = 4 := by simp; omega
 rw [if_neg (by rw [As, Ac]; simp; omega), e4, Dh (by omega) (by omega), Aa, show ((b.length - 4 : Nat) : Int).toNat = b.length - 4 from rfl, Blp _ (by simp; omega), Aa]
 simp only
 rw [if_neg (by rw [Am]; simp), Cs (by omega) (by omega), Aa, show ((b.length - 4 : Nat) : Int).toNat = b.length - 4 from rfl, Bjd _ (by omega) (by omega), Aa]
 have hne : Bn (leU (b.drop (b.length - 4))) (Ad (Io (b.take (b.length - 4))) : UInt64) = decide ((Io (b.take (b.length - 4))).toNat ≠ Dy (b.drop (b.length - 4))) := by
  have hlt := (Io (b.take (b.length - 4))).toNat_lt
  rw [Ajn, Bool.eq_iff_iff]
  simp only [bne_iff_ne, ne_eq, ← UInt64.toNat_inj, decide_eq_true_eq]
  rw [Al2 (by omega), Iy, UInt64.toNat_ofNat', Nat.mod_eq_of_lt (by omega)]
  exact ⟨fun h e => h e.symm, fun h e => h e.symm⟩
 simp only
 rw [hne, Aa]
 by_cases h3 : (Io (b.take (b.length - 4))).toNat ≠ Dy (b.drop (b.length - 4))
 ·have hS : Xp b = 22 := by rw [Xp, if_neg h1, if_neg h2, if_pos h3]
  rw [if_pos (by simp [h3]), hS]; rfl
 ·have hS : Xp b = 0 := by rw [Xp, if_neg h1, if_neg h2, if_neg h3]
  rw [if_neg (by rw [decide_eq_false h3]; decide), hS]; rfl
theorem Boy (b : List UInt8) (hb : b.length ≤ 1000000) : Rj b = some (b ++ leB (Io b).toNat 4) := by
 have h : ∀ k : Nat, (Ad (Ci (Io b) k) : UInt8) = UInt8.ofNat ((Io b).toNat / 2 ^ k) := by
  intro k; rw [Aup, An1]
 have h0 : (Ad (Io b) : UInt8) = UInt8.ofNat (Io b).toNat := Aup _
 have h1 := h 8
 have h2 := h 16
 have h3 := h 24
 rw [Rj, Bs1 b (by omega), Aa, Ca (by simp; omega), Aa, Ca (by simp; omega), Aa, h0, show (GI.toZ (8 : UInt64)).toNat = 8 from rfl, show (GI.toZ (16 : UInt64)).toNat = 16 from rfl, show (GI.toZ (24 : UInt64)).toNat = 24 from rfl, h1, h2, h3]
 simp only [leB, Nat.div_div_eq_div_mul, List.nil_append]
theorem Ba5 (b : List UInt8) : Lh b = some (Xp b) := by
 rw [Lh]
 by_cases h1 : b.length < 5
 ·rw [if_pos (by rw [Af, Ac]; simp; omega), Xp, if_pos h1]
 rw [if_neg (by rw [Af, Ac]; simp; omega)]
 by_cases h2 : 41254 < b.length
 ·rw [if_pos (by rw [As, Ac]; simp; omega), Xp, if_neg h1, if_pos h2]
 have e4 : Al (Ac b) 4 = ((b.length - 4 : Nat) : Int) := by rw [Ac, Bh (by omega) (by omega)]; omega
 have hd : (b.drop (b.length - 4)).length = 4 := by simp; omega
 rw [if_neg (by rw [As, Ac]; simp; omega), e4, Dh (by omega) (by omega), Aa, show ((b.length - 4 : Nat) : Int).toNat = b.length - 4 from rfl, Boy _ (by simp; omega), Aa]
 have hlt := (Io (b.take (b.length - 4))).toNat_lt
 have hiff : (b.take (b.length - 4) ++ leB (Io (b.take (b.length - 4))).toNat 4 != b) = decide ((Io (b.take (b.length - 4))).toNat ≠ Dy (b.drop (b.length - 4))) := by
  rw [Bool.eq_iff_iff]
  simp only [bne_iff_ne, ne_eq, decide_eq_true_eq]
  constructor
  ·intro h e
   apply h
   have : leB (Io (b.take (b.length - 4))).toNat 4 = b.drop (b.length - 4) := Bnw (by rw [Ro, hd]) (by rw [Bfn, Nat.mod_eq_of_lt (by omega), e])
   rw [this, List.take_append_drop]
  ·intro h e
   apply h
   have hx : leB (Io (b.take (b.length - 4))).toNat 4 = b.drop (b.length - 4) := by
    have e2 : b.take (b.length - 4) ++ leB (Io (b.take (b.length - 4))).toNat 4 = b.take (b.length - 4) ++ b.drop (b.length - 4) := by rw [e, List.take_append_drop]
    exact List.append_cancel_left e2
   rw [← hx, Bfn, Nat.mod_eq_of_lt (by omega)]
 rw [hiff]
 by_cases h3 : (Io (b.take (b.length - 4))).toNat ≠ Dy (b.drop (b.length - 4))
 ·rw [if_pos (by simp [h3]), Xp, if_neg h1, if_neg h2, if_pos h3]
 ·rw [if_neg (by rw [decide_eq_false h3]; decide), Xp, if_neg h1, if_neg h2, if_neg h3]
theorem Bif {b : List UInt8} (h : Xp b = 0) : 5 ≤ b.length ∧ b.length ≤ 41254 := by
 unfold Xp at h
 split at h
 ·simp at h
 ·split at h
  ·simp at h
  ·omega
theorem Bm6 {c : Nat} (h1 : 1 ≤ c) (h6 : c ≤ 6) : Cn (4000 : Int) (c : Int) = ((4000 / c : Nat) : Int) := by
 have : c = 1 ∨ c = 2 ∨ c = 3 ∨ c = 4 ∨ c = 5 ∨ c = 6 := by omega
 rcases this with rfl | rfl | rfl | rfl | rfl | rfl <;> rfl
theorem Bvb (p : List UInt8) (h : p.length ≤ 41250) : okB p (8 * p.length) := ⟨by omega, by omega, fun k h1 h2 => by omega⟩
theorem Ayd {bits : Int} {ch n : Nat} {t : List Int32} (b : List UInt8) (hb : Dj bits) (ht : t.length = 16) (h1 : 1 ≤ ch) (h6 : ch ≤ 6) (n1 : 1 ≤ n) (n2 : n ≤ 4000 / ch) :
  ∃ l e, Ys (ch : Int) bits t (n : Int) b = some (l, e) ∧ It (ch : Int) bits t (n : Int) b = some (l, e) ∧ (e = 0 → Bg bits l = some 0 ∧ l.length ≤ 4000 ∧ l.length = n * ch) ∧ (e ≠ 0 → l = []) := by
 have hn : n * ch ≤ 4000 := by
  have := Nat.mul_le_mul_right ch n2
  have h2 := Nat.div_mul_le_self 4000 ch
  omega
 have hq4 := Bm6 h1 h6
 generalize 4000 / ch = mm at *
 have hck : Agy (ch : Int) bits = some 0 := by
  have hr : ∃ x y, Ag4 bits = some (x, y, 0) := ⟨_, _, Br7 hb⟩
  obtain ⟨x, y, hr⟩ := hr
  rw [Agy, hr, Aa]
  simp only
  rw [if_neg (by simp [Am, Af, As]; omega)]
 have hh := Aw0 bits
 have hasked : Jq (ch : Int) bits (n : Int) = some 0 := by
  rw [Jq, Ty, if_neg (by simp [Af, As]; omega), Bcb hb, Aa, if_neg (by rw [Ba]; simp; omega), Aa, if_neg (by simp [Am, Af]; omega), Cp (by rw [Am]; simp; omega), Aa, hq4, if_neg (by rw [As]; simp; omega)]
 rw [Ys, It, Me, hck, hasked, Aa, Aa, if_neg (by rw [Am]; simp), if_neg (by rw [Af]; simp; omega), Cp (by rw [Am]; simp; omega), Aa, hq4, if_neg (by rw [As]; simp; omega), if_neg (by rw [Am]; simp), Bi1, Ba5]
 by_cases hs : Xp b ≠ 0
 ·rw [if_pos hs]
  simp only [Aa]
  rw [if_pos (by rw [Am]; simpa using hs), if_pos (by rw [Am]; simpa using hs)]
  exact ⟨[], Xp b, rfl, rfl, fun e => absurd e hs, fun _ => rfl⟩
 have hs0 : Xp b = 0 := by simpa using hs
 have hlen := Bif hs0
 have e4 : Al (Ac b) 4 = ((b.length - 4 : Nat) : Int) := by rw [Ac, Bh (by omega) (by omega)]; omega
 rw [if_neg hs, hs0]
 simp only [Aa]
 rw [if_neg (by rw [Am]; simp), if_neg (by rw [Am]; simp), e4, Dh (by omega) (by omega), Aa, show ((b.length - 4 : Nat) : Int).toNat = b.length - 4 from rfl]
 have hpl : (b.take (b.length - 4)).length = b.length - 4 := by simp
 generalize b.take (b.length - 4) = p at *
 have e8 : Bq (8 : Int) (Ac p) = ((8 * p.length : Nat) : Int) := by rw [Ac, Ik (by omega) (by omega)]; omega
 have hp := Bvb p (by omega)
 have hv := values_eq hp h1 h6 hn
 have hr := Bm7 (N := 8 * p.length) (p := p) rfl (by omega) h1 h6 hn
 have hat := Ay1 (ch := ch) (p := p) (N := 8 * p.length) (n * ch) 0 [] (by omega)
 rw [Bfu, if_neg (by rw [As, Ac]; simp; omega), Ib, Ca (by simp; omega), Aa, Aa, Aa, List.nil_append, e8]
 simp only
 rw [if_neg (by rw [Am]; simp), hv, hr, Aa, Aa]
 generalize Zw ch p (8 * p.length) (n * ch) 0 [] = V at *
 obtain ⟨v, at', e⟩ := V
 simp only at *
 by_cases he : e ≠ 0
 ·rw [if_pos he, if_pos he]
  simp only
  rw [if_pos (by rw [Am]; simpa using he), Fm, Dp, if_pos (by rw [Am]; simpa using he)]
  exact ⟨[], e, rfl, rfl, fun h => absurd h he, fun _ => rfl⟩
 have he0 : e = 0 := by simpa using he
 have hvl := hat.2.2 he0
 simp only [List.length_nil, Nat.zero_add] at hvl
 rw [if_neg he, if_neg he]
 simp only
 rw [if_neg (by rw [Am]; simp), Bh (by omega) (by omega), show ((8 * p.length : Nat) : Int) - (at' : Int) = ((8 * p.length - at' : Nat) : Int) by omega, Fm, Dp]
 by_cases h7 : 7 < 8 * p.length - at'
 ·have hE : (if 7 < 8 * p.length - at' ∨ Cd p at' (8 * p.length - at') ≠ 0 then (12 : Int) else 0) = 12 := if_pos (.inl h7)
  rw [if_pos (by rw [Dt]; simp; omega), hE, if_pos (by decide)]
  exact ⟨[], 12, rfl, rfl, fun h => absurd h (by decide), fun _ => rfl⟩
 rw [if_neg (by rw [Dt]; simp; omega), Aws hp at' _ (by omega), if_neg (by omega), Aa]
 have hz : Bn (Ym p at' (8 * p.length - at')) (0 : UInt64) = decide (Cd p at' (8 * p.length - at') ≠ 0) := by
  rw [Ajn, Bool.eq_iff_iff]
  simp only [bne_iff_ne, ne_eq, ← UInt64.toNat_inj, decide_eq_true_eq]
  rw [Adf p _ _ (by omega)]; rfl
 simp only
 rw [hz]
 by_cases hv0 : Cd p at' (8 * p.length - at') ≠ 0
 ·have hE : (if 7 < 8 * p.length - at' ∨ Cd p at' (8 * p.length - at') ≠ 0 then (12 : Int) else 0) = 12 := if_pos (.inr hv0)
  rw [if_pos (by simp [hv0]), hE, if_pos (by decide)]
  exact ⟨[], 12, rfl, rfl, fun h => absurd h (by decide), fun _ => rfl⟩
 have hm : v.length % ch = 0 := by rw [hvl]; exact Nat.mul_mod_left n ch
 obtain ⟨l, e, g1, g2, g3, g4, g5⟩ := Avn (v := v) hb ht h1 h6 (by omega) hm
 have hE : (if 7 < 8 * p.length - at' ∨ Cd p at' (8 * p.length - at') ≠ 0 then (12 : Int) else 0) = 0 := if_neg (by omega)
 rw [if_neg (by rw [decide_eq_false hv0]; decide), hE, if_neg (by decide), g1, g3, Aa, Aa, g2]
 by_cases hl : e ≠ 0
 ·rw [if_pos hl]
  exact ⟨[], e, rfl, rfl, fun h => absurd h hl, fun _ => rfl⟩
 ·rw [if_neg hl]
  have hl0 : e = 0 := by simpa using hl
  exact ⟨l, 0, rfl, rfl, fun _ => ⟨by rw [g4, hl0], by omega, by omega⟩, fun e => absurd rfl e⟩
end Go.Pl
set_option linter.unusedVariables false
set_option linter.unusedSimpArgs false
namespace Go.Pl
open Go Go.Lv
def P64 : Nat := 4823603603198064275
def Ah7 (s : Nat) : Nat := (2 * s % 18446744073709551616) ^^^ (s / 9223372036854775808 * P64)
theorem An2 {s : Nat} (h : s < 18446744073709551616) : Ah7 s < 18446744073709551616 := by
 have h1 : s / 9223372036854775808 = 0 ∨ s / 9223372036854775808 = 1 := by omega
 exact Nat.xor_lt_two_pow (n := 64) (Nat.mod_lt _ (by decide)) (by rcases h1 with e | e <;> rw [e] <;> decide)
theorem Bm8 (x y : Nat) : (x ^^^ y) / 9223372036854775808 = (x / 9223372036854775808) ^^^ (y / 9223372036854775808) := by
 have := Nat.shiftRight_xor_distrib (a := x) (b := y) (i := 63)
 simpa [Nat.shiftRight_eq_div_pow] using this
theorem Bmi (x y : Nat) : 2 * (x ^^^ y) % 18446744073709551616 = (2 * x % 18446744073709551616) ^^^ (2 * y % 18446744073709551616) := by
 have h1 := Nat.shiftLeft_xor_distrib (a := x) (b := y) (i := 1)
 have h2 := Nat.xor_mod_two_pow (a := 2 * x) (b := 2 * y) (n := 64)
 have e : 2 * (x ^^^ y) = (2 * x) ^^^ (2 * y) := by simpa [Nat.shiftLeft_eq, Nat.mul_comm] using h1
 rw [e]; exact h2
theorem Bum {a b : Nat} (ha : a = 0 ∨ a = 1) (hb : b = 0 ∨ b = 1) (p : Nat) : (a ^^^ b) * p = (a * p) ^^^ (b * p) := by
 rcases ha with rfl | rfl <;> rcases hb with rfl | rfl <;> simp
theorem Ca1 (a b c d : Nat) : (a ^^^ b) ^^^ (c ^^^ d) = (a ^^^ c) ^^^ (b ^^^ d) := by
 rw [Nat.xor_assoc, Nat.xor_assoc, ← Nat.xor_assoc b c d, Nat.xor_comm b c, Nat.xor_assoc c b d]
theorem Bkl {x y : Nat} (hx : x < 18446744073709551616) (hy : y < 18446744073709551616) : Ah7 (x ^^^ y) = Ah7 x ^^^ Ah7 y := by
 rw [Ah7, Ah7, Ah7, Bmi, Bm8, Bum (by omega) (by omega), Ca1]
def Oj : Nat → Nat → Nat
 | 0, s => s
 | k + 1, s => Oj k (Ah7 s)
theorem Awz : ∀ (k : Nat) {s : Nat}, s < 18446744073709551616 → Oj k s < 18446744073709551616
 | 0, _, h => h
 | k + 1, _, h => Awz k (An2 h)
theorem Ba0 : ∀ (k : Nat) {x y : Nat}, x < 18446744073709551616 → y < 18446744073709551616 → Oj k (x ^^^ y) = Oj k x ^^^ Oj k y
 | 0, _, _, _, _ => rfl
 | k + 1, x, y, hx, hy => by rw [Oj, Bkl hx hy, Ba0 k (An2 hx) (An2 hy)]; rfl
theorem Azj : ∀ (k h : Nat), 2 ^ k * h < 18446744073709551616 → Oj k h = 2 ^ k * h
 | 0, h, _ => by simp [Oj]
 | k + 1, h, hl => by
  have hpos : 0 < 2 ^ k := Nat.pow_pos (by omega)
  rw [Nat.pow_succ, Nat.mul_assoc] at hl
  have h2 : 2 * h < 18446744073709551616 := Nat.lt_of_le_of_lt (Nat.le_mul_of_pos_left _ hpos) hl
  have : Ah7 h = 2 * h := by rw [Ah7, Nat.mod_eq_of_lt h2, show h / 9223372036854775808 = 0 by omega]; simp
  rw [Oj, this, Azj k _ hl, Nat.pow_succ, Nat.mul_assoc]
def Ara (s c : Nat) : Nat := Oj 8 (s ^^^ (c * 72057594037927936))
theorem c56 {c : Nat} (hc : c < 256) : c * 72057594037927936 < 18446744073709551616 := by omega
theorem Aw2 {s c : Nat} (h : s < 18446744073709551616) (hc : c < 256) : Ara s c < 18446744073709551616 := Awz 8 (Nat.xor_lt_two_pow (n := 64) h (c56 hc))
theorem Bvf (s : Nat) : s = (s / 72057594037927936 * 72057594037927936) ^^^ (s % 72057594037927936) := by
 have h1 : s % 72057594037927936 < 2 ^ 56 := Nat.mod_lt _ (by decide)
 have := Nat.two_pow_add_eq_or_of_lt h1 (s / 72057594037927936)
 have h2 : 2 ^ 56 * (s / 72057594037927936) ||| s % 72057594037927936 = (2 ^ 56 * (s / 72057594037927936)) ^^^ (s % 72057594037927936) := by
  apply Nat.eq_of_testBit_eq; intro i
  rw [Nat.testBit_or, Nat.testBit_xor]
  by_cases hi : i < 56
  ·have : (2 ^ 56 * (s / 72057594037927936)).testBit i = false := by rw [Nat.testBit_two_pow_mul]; simp; omega
   rw [this]; simp
  ·have : (s % 72057594037927936).testBit i = false := Nat.testBit_lt_two_pow (Nat.lt_of_lt_of_le h1 (Nat.pow_le_pow_right (by omega) (by omega)))
   rw [this]; simp
 rw [Nat.mul_comm (s / 72057594037927936)]
 show s = (2 ^ 56 * (s / 72057594037927936)) ^^^ _
 rw [← h2, ← this]
 have := Nat.div_add_mod s 72057594037927936
 show s = 72057594037927936 * _ + _
 omega
theorem Bok (a c : Nat) : (a ^^^ c) * 72057594037927936 = (a * 72057594037927936) ^^^ (c * 72057594037927936) := by
 have h1 := Nat.shiftLeft_xor_distrib (a := a) (b := c) (i := 56)
 simpa [Nat.shiftLeft_eq] using h1
theorem Bfx {s c : Nat} (h : s < 18446744073709551616) (hc : c < 256) : Ara s c = (256 * s % 18446744073709551616) ^^^ Oj 8 (((s / 72057594037927936) ^^^ c) * 72057594037927936) := by
 have hs : s / 72057594037927936 < 2 ^ 8 := by show _ < 256; omega
 have hx : (s / 72057594037927936) ^^^ c < 256 := Nat.xor_lt_two_pow (n := 8) hs (by simpa using hc)
 have hl : s % 72057594037927936 < 72057594037927936 := Nat.mod_lt _ (by decide)
 rw [Ara]
 conv => lhs; rw [Bvf s]
 rw [Nat.xor_comm (s / 72057594037927936 * 72057594037927936), Nat.xor_assoc, ← Bok, Ba0 8 (by omega) (c56 hx), Azj 8 _ (by show 256 * _ < _; omega)]
 congr 1
 show 256 * (s % 72057594037927936) = _
 omega
def Azs (s : Nat) (l : List UInt8) : Nat := l.foldl (fun s c => Ara s c.toNat) s
theorem Bc2 {n : Nat} (h : n < 18446744073709551616) : (UInt64.ofNat n).toNat = n := by rw [UInt64.toNat_ofNat']; exact Nat.mod_eq_of_lt h
theorem Byu (s : UInt64) (bit : Nat) (hb : bit = 0 ∨ bit = 1) : Xq s (bit : Int) = some (UInt64.ofNat ((2 * s.toNat % 18446744073709551616) ^^^ (((s.toNat / 9223372036854775808) ^^^ bit) * P64))) := by
 have hs := s.toNat_lt
 have ht : s.toNat / 9223372036854775808 = 0 ∨ s.toNat / 9223372036854775808 = 1 := by omega
 have e1 : (Bq s (2 : UInt64)).toNat = 2 * s.toNat % 18446744073709551616 := by
  rw [Ag7, UInt64.toNat_mul]; show s.toNat * 2 % _ = _; rw [Nat.mul_comm]
 have hlt : 2 * s.toNat % 18446744073709551616 < 18446744073709551616 := Nat.mod_lt _ (by decide)
 have ey : Abg (Bq s (2 : UInt64)) (4823603603198064275 : UInt64) = UInt64.ofNat ((2 * s.toNat % 18446744073709551616) ^^^ P64) := by
  apply UInt64.toNat_inj.1
  rw [Azq, UInt64.toNat_xor, e1, Bc2 (Nat.xor_lt_two_pow (n := 64) hlt (by decide))]; rfl
 have en : Bq s (2 : UInt64) = UInt64.ofNat (2 * s.toNat % 18446744073709551616) := by
  apply UInt64.toNat_inj.1
  rw [e1, Bc2 hlt]
 have eg : Qq s (9223372036854775808 : UInt64) = decide (s.toNat / 9223372036854775808 = 1) := by
  rw [Buq, decide_eq_decide]
  show 9223372036854775808 ≤ s.toNat ↔ _
  omega
 have hp : ∀ b : Bool, Pv s b = some (if b = true then UInt64.ofNat ((2 * s.toNat % 18446744073709551616) ^^^ P64) else UInt64.ofNat (2 * s.toNat % 18446744073709551616)) := by
  intro b
  rw [Pv, Ahi, ey, en]; cases b <;> rfl
 rw [Xq, Yw, hp, hp, eg]
 rcases hb with rfl | rfl <;> rcases ht with h | h <;> rw [h] <;> simp [Ba]
theorem Axz (c : UInt8) : ∀ (j q : Nat) (s : UInt64), j ≤ 8 → j < q → Hk c q s ((2 ^ j / 2 : Nat) : Int) = some (UInt64.ofNat (Oj j (s.toNat ^^^ (c.toNat % 2 ^ j * 2 ^ (64 - j)))))
 | 0, q + 1, s, _, _ => by
  rw [Hk, Pg, if_neg (by rw [As]; simp), Zb, Aho]
  simp [Oj, Nat.mod_one]
 | j + 1, q + 1, s, hj, hq => by
  have hc := c.toNat_lt
  have hs := s.toNat_lt
  have hj2 : 2 ^ j ≤ 2 ^ 7 := Nat.pow_le_pow_right (by omega) (by omega)
  have hpos : 0 < 2 ^ j := Nat.pow_pos (by omega)
  have e1 : 2 ^ (j + 1) / 2 = 2 ^ j := by rw [Nat.pow_succ]; omega
  have e2 : Cn ((2 ^ j : Nat) : Int) 2 = ((2 ^ j / 2 : Nat) : Int) := by
   generalize 2 ^ j = K at *
   rw [Aij, Int.tdiv_eq_ediv_of_nonneg (by omega), Ce (by omega) (by omega)]; omega
  have e3 : Ig (Cn (Ad c : Int) ((2 ^ j : Nat) : Int)) (2 : Int) = ((c.toNat / 2 ^ j % 2 : Nat) : Int) := by
   have hX := Nat.div_le_self c.toNat (2 ^ j)
   rw [Aj0, Aij, ← Int.ofNat_tdiv]
   generalize c.toNat / 2 ^ j = X at *
   rw [Ce (by omega) (by omega), Ig, Int.tmod_eq_emod_of_nonneg (by omega)]; omega
  have hbit : c.toNat / 2 ^ j % 2 = 0 ∨ c.toNat / 2 ^ j % 2 = 1 := by omega
  rw [Hk, Pg, e1, if_pos (by rw [As, decide_eq_true_eq]; omega), Cp (by rw [Am, bne_iff_ne]; omega), Aa, e3, Byu s _ hbit, Aa, e2, Axz c j q _ (by omega) (by omega)]
  congr 2
  rw [Oj]
  congr 1
  have hx : c.toNat % 2 ^ (j + 1) * 2 ^ (64 - (j + 1)) = (c.toNat / 2 ^ j % 2) * 9223372036854775808 + c.toNat % 2 ^ j * 2 ^ (63 - j) := by
   have h63 : (9223372036854775808 : Nat) = 2 ^ j * 2 ^ (63 - j) := by rw [← Nat.pow_add, show j + (63 - j) = 63 by omega]
   rw [Nat.mod_pow_succ, h63, show 64 - (j + 1) = 63 - j by omega, Nat.add_mul, Nat.add_comm, Nat.mul_assoc, Nat.mul_left_comm]
  have hr : c.toNat % 2 ^ j < 2 ^ j := Nat.mod_lt _ hpos
  have hb63 : c.toNat % 2 ^ j * 2 ^ (63 - j) < 9223372036854775808 := by
   have h63 : (9223372036854775808 : Nat) = 2 ^ j * 2 ^ (63 - j) := by rw [← Nat.pow_add, show j + (63 - j) = 63 by omega]
   rw [h63]; exact Nat.mul_lt_mul_of_pos_right hr (Nat.pow_pos (by omega))
  have h64 : c.toNat % 2 ^ j * 2 ^ (64 - j) = 2 * (c.toNat % 2 ^ j * 2 ^ (63 - j)) := by
   rw [show 64 - j = (63 - j) + 1 by omega, Nat.pow_succ, ← Nat.mul_assoc, Nat.mul_comm]
  rw [hx, h64]
  generalize c.toNat % 2 ^ j * 2 ^ (63 - j) = R at *
  generalize c.toNat / 2 ^ j % 2 = b at *
  have ht : s.toNat / 9223372036854775808 = 0 ∨ s.toNat / 9223372036854775808 = 1 := by omega
  have hp : ((s.toNat / 9223372036854775808 ^^^ b) * P64) < 18446744073709551616 := by
   rcases ht with h | h <;> rcases hbit with h2 | h2 <;> rw [h, h2] <;> decide
  rw [Bc2 (Nat.xor_lt_two_pow (n := 64) (Nat.mod_lt _ (by decide)) hp), Ah7, Bmi, Bm8, show (b * 9223372036854775808 + R) / 9223372036854775808 = b by omega, show 2 * (b * 9223372036854775808 + R) % 18446744073709551616 = 2 * R by omega, Nat.xor_assoc, Nat.xor_assoc, Nat.xor_comm (2 * R)]
theorem Byp (c : UInt8) (s : UInt64) : Ade s c = some (UInt64.ofNat (Ara s.toNat c.toNat)) := by
 have h := Axz c 8 Au s (Nat.le_refl _) (by have := Aq; omega)
 have hc := c.toNat_lt
 rw [Nat.mod_eq_of_lt (show c.toNat < 2 ^ 8 by simpa using hc)] at h
 exact h
theorem Atq (b : List UInt8) (hb : b.length < 4611686018427387904) : ∀ (j i q : Nat) (s : UInt64), i + j = b.length → j < q → Fj b q s (i : Int) = some (UInt64.ofNat (Azs s.toNat (b.drop i)))
 | 0, i, q + 1, s, hi, _ => by
  rw [Fj, Ma, if_neg (by rw [Af, Ac]; simp; omega), show i = b.length by omega, List.drop_length]
  simp [Tz, Adw, Azs]
 | j + 1, i, q + 1, s, hi, hq => by
  have hlt : i < b.length := by omega
  have hc := b[i].toNat_lt
  rw [Fj, Ma, if_pos (by rw [Af, Ac]; simp; omega), Cq hlt, Aa, Byp, Aa, Ah (by omega) (by omega)]
  have h := Atq b hb j (i + 1) q (UInt64.ofNat (Ara s.toNat b[i].toNat)) (by omega) (by omega)
  rw [show ((i : Int) + 1) = ((i + 1 : Nat) : Int) by omega, h, drop_cons hlt, Bc2 (Aw2 s.toNat_lt (by simpa using hc))]
  rfl
def Ac4 (b : List UInt8) : UInt64 := UInt64.ofNat (Azs 0 b)
theorem Bha (b : List UInt8) (hb : b.length ≤ 100000) : Rp 0 b = some (Ac4 b) :=
 Atq b (by omega) b.length 0 Au 0 (by omega) (by have := Aq; omega)
theorem Bld (c : UInt64) : Abg (Eh c (GI.toZ (1 : UInt64)).toNat) (Bq (4823603603198064275 : UInt64) (Ci c (GI.toZ (63 : UInt64)).toNat)) = UInt64.ofNat (Ah7 c.toNat) := by
 have hc := c.toNat_lt
 apply UInt64.toNat_inj.1
 have h1 : (Eh c (GI.toZ (1 : UInt64)).toNat).toNat = 2 * c.toNat % 18446744073709551616 := by
  rw [show (GI.toZ (1 : UInt64)).toNat = 1 from rfl, Anj, Nat.mul_comm]
 have h2 : (Bq (4823603603198064275 : UInt64) (Ci c (GI.toZ (63 : UInt64)).toNat)).toNat = c.toNat / 9223372036854775808 * P64 := by
  rw [show (GI.toZ (63 : UInt64)).toNat = 63 from rfl, Ag7, UInt64.toNat_mul, Aei]
  show 4823603603198064275 * (c.toNat / 9223372036854775808) % 18446744073709551616 = _
  have h1 : c.toNat / 9223372036854775808 = 0 ∨ c.toNat / 9223372036854775808 = 1 := by omega
  rcases h1 with e | e <;> rw [e] <;> decide
 rw [Azq, UInt64.toNat_xor, h1, h2, Bc2 (An2 hc)]; rfl
theorem Axt (bk16 : Int → List UInt64 → Option (UInt64 × Int)) (s : UInt64) (b : List UInt8) (x : Int) (t : List UInt64) : ∀ (j i q : Nat) (c : UInt64), i + j = 8 → j < q →
  Sm bk16 s b x t q c (i : Int) = Ac3 bk16 s b x (UInt64.ofNat (Oj j c.toNat)) t
 | 0, i, q + 1, c, hi, _ => by
  obtain rfl : i = 8 := by omega
  rw [Sm, Adq, if_neg (by rw [Af]; simp), Oj, UInt64.ofNat_toNat]
 | j + 1, i, q + 1, c, hi, hq => by
  rw [Sm, Adq, if_pos (by rw [Af]; simp; omega), Bld, Ah (by omega) (by omega), show ((i : Int) + 1) = ((i + 1 : Nat) : Int) by omega, Axt bk16 s b x t j (i + 1) q _ (by omega) (by omega), Bc2 (An2 c.toNat_lt)]; rfl
def Alz (n : Nat) : List UInt64 := (List.range n).map fun i => UInt64.ofNat (Oj 8 (i * 72057594037927936))
theorem Azk (s : UInt64) (b : List UInt8) : ∀ (j i q : Nat), i + j = 256 → j < q → Mx s b q (i : Int) (Alz i ++ List.replicate j 0) = Aep s b (Alz 256)
 | 0, i, q + 1, hi, _ => by
  obtain rfl : i = 256 := by omega
  rw [Mx, Aet, if_neg (by rw [Af]; simp)]; simp
 | j + 1, i, q + 1, hi, hq => by
  have hlen : (Alz i ++ List.replicate (j + 1) 0).length = i + (j + 1) := by simp [Alz]
  rw [Mx, Aet, if_pos (by rw [Af]; simp; omega), Akc]
  have h := Axt (Mx s b q) s b (i : Int) (Alz i ++ List.replicate (j + 1) 0) 8 0 Au (Eh (Ad (i : Int) : UInt64) (GI.toZ (56 : UInt64)).toNat) (by omega) (by have := Aq; omega)
  rw [show ((0 : Int)) = ((0 : Nat) : Int) from rfl, h, Ac3, Akp, Cq (by rw [hlen]; omega), Aa, Aap _ (by rw [hlen]; omega), Aa, Akx, Asb, Ah (by omega) (by omega)]
  have e : (Eh (Ad (i : Int) : UInt64) (GI.toZ (56 : UInt64)).toNat).toNat = i * 72057594037927936 := by
   rw [Anj, Zs, Bc2 (by omega)]
   show i * 72057594037927936 % 18446744073709551616 = _
   omega
  rw [e, List.replicate_succ, As5 (by simp [Alz])]
  have h2 := Azk s b j (i + 1) q (by omega) (by omega)
  have h3 : Alz (i + 1) = Alz i ++ [UInt64.ofNat (Oj 8 (i * 72057594037927936))] := by simp [Alz, List.range_succ]
  rw [h3] at h2
  rw [show ((i : Int) + 1) = ((i + 1 : Nat) : Int) by omega, ← h2]
  simp
theorem Bo7 {i : Nat} (h : i < 256) : Ak (Alz 256) (i : Int) = some (UInt64.ofNat (Oj 8 (i * 72057594037927936))) := by
 rw [Cq (by simpa [Alz] using h)]; simp [Alz]
theorem Bhe (s : UInt64) (c : UInt8) : Ak (Alz 256) (GI.toZ (Abg (Ad (Ci s (GI.toZ (56 : UInt64)).toNat) : UInt8) c)) = some (UInt64.ofNat (Oj 8 (((s.toNat / 72057594037927936) ^^^ c.toNat) * 72057594037927936))) := by
 have hs := s.toNat_lt
 have e : GI.toZ (Abg (Ad (Ci s (GI.toZ (56 : UInt64)).toNat) : UInt8) c) = (((s.toNat / 72057594037927936) ^^^ c.toNat : Nat) : Int) := by
  have e2 : ((Ad (Ci s (GI.toZ (56 : UInt64)).toNat) : UInt8)).toNat = s.toNat / 72057594037927936 := by
   rw [Apl, UInt8.toNat_ofNat', Aei]
   show s.toNat / 72057594037927936 % 256 = _
   omega
  rw [Ab9, Bl8, UInt8.toNat_xor, e2]
 rw [e, Bo7]
 exact Nat.xor_lt_two_pow (n := 8) (by show _ < 256; omega) (by simpa using c.toNat_lt)
theorem Bfs (s : UInt64) (c : UInt8) : Abg (Eh s (GI.toZ (8 : UInt64)).toNat) (UInt64.ofNat (Oj 8 (((s.toNat / 72057594037927936) ^^^ c.toNat) * 72057594037927936))) = UInt64.ofNat (Ara s.toNat c.toNat) := by
 have hs := s.toNat_lt
 have hc : c.toNat < 256 := by simpa using c.toNat_lt
 apply UInt64.toNat_inj.1
 have hlt : Oj 8 (((s.toNat / 72057594037927936) ^^^ c.toNat) * 72057594037927936) < 18446744073709551616 := Awz 8 (c56 (Nat.xor_lt_two_pow (n := 8) (by show _ < 256; omega) (by simpa using c.toNat_lt)))
 have e : (GI.toZ (8 : UInt64)).toNat = 8 := rfl
 rw [e, Azq, UInt64.toNat_xor, Anj, Bc2 hlt, Bc2 (Aw2 hs hc), Bfx hs hc, Nat.mul_comm s.toNat]
theorem Ax5 (b : List UInt8) (s0 : UInt64) (hb : b.length < 4611686018427387904) : ∀ (j i q : Nat) (s : UInt64), i + j = b.length → j < q → Sn b s0 (Alz 256) q s (i : Int) = some (UInt64.ofNat (Azs s.toNat (b.drop i)), 0)
 | 0, i, q + 1, s, hi, _ => by
  rw [Sn, Aes, if_neg (by rw [Af, Ac]; simp; omega), show i = b.length by omega, List.drop_length]
  simp [Ak7, Akl, Aj2, Ar8, Azs]
 | j + 1, i, q + 1, s, hi, hq => by
  have hlt : i < b.length := by omega
  have hc := b[i].toNat_lt
  rw [Sn, Aes, if_pos (by rw [Af, Ac]; simp; omega), Cq hlt, Aa, Bhe, Aa, Aa, Bfs, Ah (by omega) (by omega)]
  have h := Ax5 b s0 hb j (i + 1) q (UInt64.ofNat (Ara s.toNat b[i].toNat)) (by omega) (by omega)
  rw [show ((i : Int) + 1) = ((i + 1 : Nat) : Int) by omega, h, drop_cons hlt, Bc2 (Aw2 s.toNat_lt (by simpa using hc))]
  rfl
theorem Bg1 (b : List UInt8) (hb : b.length ≤ 100000) : Aoh b = some (Ac4 b, 0) := by
 have h := Azk 0 b 256 0 Au (by omega) (by have := Aq; omega)
 have h2 := Ax5 b 0 (by omega) b.length 0 Au 0 (by omega) (by have := Aq; omega)
 have hn : Aos 0 b = some (Ac4 b, 0) := by
  rw [Aos, Amt, if_neg (by rw [As, Ac]; simp; omega), Aku]
  refine Eq.trans h ?_
  rw [Aep, Aj8, Akb]
  exact h2
 rw [Aoh, hn, Aa]
theorem Bo1 (p : List UInt8) (hp : p.length ≤ 64) : Ajp p = some (leB (Ac4 p).toNat 8, 0) := by
 rw [Ajp, Aw4, if_neg (by rw [As, Ac]; simp; omega), Bg1 p (by omega), Aa, Aa]
 simp only
 have h := Bjx (Ac4 p) 8 (by omega) (by omega) (by simpa using (Ac4 p).toNat_lt)
 rw [if_neg (by rw [Am]; simp)]
 exact congrArg (fun o => Option.bind o fun x : List UInt8 × Int => some (x.1, x.2)) h
theorem Bd8 (p : List UInt8) (hp : p.length ≤ 64) : Po p = some (leB (Ac4 p).toNat 8) := by
 have h := Azr (Ac4 p) 8 (by omega)
 rw [Po, Ac2, Bha p (by omega), Aa, Aa]
 exact congrArg (fun o => Option.bind o fun l => some l) h
def s8 (n : Nat) : Int32 := Int32.ofInt (if n < 128 then (n : Int) else (n : Int) - 256)
def Amc (d : UInt64) (n : Nat) : List Int32 := (List.range n).map fun i => s8 (d.toNat / 256 ^ i % 256)
theorem Ant (d : UInt64) (n : Nat) : (Amc d n).length = n := by simp [Amc]
theorem Bai (d : UInt64) (n : Nat) : Amc d (n + 1) = Amc d n ++ [s8 (d.toNat / 256 ^ n % 256)] := by simp [Amc, List.range_succ]
theorem bm8 (z : Nat) : (z : Int).bmod Int8.size = if z % 256 < 128 then ((z % 256 : Nat) : Int) else ((z % 256 : Nat) : Int) - 256 := by
 rw [show Int8.size = 256 from rfl, Int.bmod_def]
 split <;> split <;> omega
theorem Bna (d : UInt64) : ∀ (j i q : Nat), i + j = 8 → j < q → Agl d q (i : Int) (Amc d i ++ List.replicate (16 - i) 0) = some (Amc d 8 ++ List.replicate 8 0)
 | 0, i, q + 1, hi, _ => by
  obtain rfl : i = 8 := by omega
  rw [Agl, Apf, if_neg (by rw [Af]; simp)]; rfl
 | j + 1, i, q + 1, hi, hq => by
  have hlen : (Amc d i ++ List.replicate (16 - i) 0).length = 16 := by simp [Ant]; omega
  have ih := Bna d j (i + 1) q (by omega) (by omega)
  have e8 : Bq (8 : Int) (i : Int) = ((8 * i : Nat) : Int) := by rw [Ik (by omega) (by omega)]; omega
  have ev : (Ad (Ad (Ci d (GI.toZ (((8 * i : Nat) : Int))).toNat) : Int8) : Int32) = s8 (d.toNat / 256 ^ i % 256) := by
   have e1 : (Ci d (GI.toZ (((8 * i : Nat) : Int))).toNat).toNat = d.toNat / 256 ^ i := by
    rw [show (GI.toZ (((8 * i : Nat) : Int))).toNat = 8 * i from rfl, Aei, Nat.pow_mul]
   show Int32.ofInt (Int8.ofInt ((Ci d (GI.toZ (((8 * i : Nat) : Int))).toNat).toNat : Int)).toInt = _
   rw [e1, s8, Int8.toInt_ofInt, bm8]
  rw [Agl, Apf, if_pos (by rw [Af]; simp; omega), e8, Cp (by rw [Dt]; simp; omega), Aa, ev, Cq (by omega), Aa, Aap _ (by omega), Aa, Ah (by omega) (by omega), show 16 - i = (15 - i) + 1 by omega, List.replicate_succ, As5 (Ant d i)]
  rw [Bai, show 16 - (i + 1) = 15 - i by omega, List.append_assoc] at ih
  exact ih
theorem Brw (d : UInt64) : ∀ (j i q : Nat) (e : UInt64), i + j = 8 → j < q → e.toNat = d.toNat / 256 ^ i → Ha q e (i : Int) (Amc d i ++ List.replicate (16 - i) 0) = some (Amc d 8 ++ List.replicate 8 0)
 | 0, i, q + 1, e, hi, _, he => by
  obtain rfl : i = 8 := by omega
  rw [Ha, Ue, if_neg (by rw [Af]; simp)]; rfl
 | j + 1, i, q + 1, e, hi, hq, he => by
  have hlen : (Amc d i ++ List.replicate (16 - i) 0).length = 16 := by simp [Ant]; omega
  have hq2 : (Cn e (256 : UInt64)).toNat = d.toNat / 256 ^ (i + 1) := by
   rw [Arp, UInt64.toNat_div, he, Nat.pow_succ, ← Nat.div_div_eq_div_mul]; rfl
  have ih := Brw d j (i + 1) q (Cn e (256 : UInt64)) (by omega) (by omega) hq2
  have ev : (Ad (Abv e (256 : UInt64)) : Int32) = Int32.ofInt ((d.toNat / 256 ^ i % 256 : Nat) : Int) := by
   show Int32.ofInt ((Abv e (256 : UInt64)).toNat : Int) = _
   rw [Bcj, UInt64.toNat_mod, he]; rfl
  have hz : d.toNat / 256 ^ i % 256 < 256 := Nat.mod_lt _ (by omega)
  have et : (Int32.ofInt ((d.toNat / 256 ^ i % 256 : Nat) : Int)).toInt = ((d.toNat / 256 ^ i % 256 : Nat) : Int) := by
   rw [Int32.toInt_ofInt, Int.bmod_eq_of_le (by show -(4294967296 / 2 : Int) ≤ _; omega) (by show _ < (4294967296 + 1) / 2; omega)]
  have hp8 : ∀ x : Int32, x = s8 (d.toNat / 256 ^ i % 256) → Up (Ha q) e (i : Int) (Amc d i ++ List.replicate (16 - i) 0) x = some (Amc d 8 ++ List.replicate 8 0) := by
   intro x hx
   rw [Up, Alm, hx, Cq (by omega), Aa, Aap _ (by omega), Aa, Ah (by omega) (by omega), show 16 - i = (15 - i) + 1 by omega, List.replicate_succ, As5 (Ant d i)]
   rw [Bai, show 16 - (i + 1) = 15 - i by omega, List.append_assoc] at ih
   exact ih
  rw [Ha, Ue, if_pos (by rw [Af]; simp; omega), ev, Bly, et, show (127 : Int32).toInt = 127 from rfl]
  by_cases h : d.toNat / 256 ^ i % 256 < 128
  ·rw [if_neg (by simp only [decide_eq_true_eq]; omega)]
   exact hp8 _ (by rw [s8, if_pos h])
  ·rw [if_pos (by simp only [decide_eq_true_eq]; omega)]
   refine hp8 _ ?_
   rw [s8, if_neg h, Bca, Int32.ofInt_sub]; rfl
def Aru (p : List UInt8) : List Int32 := Amc (Ac4 p) 8 ++ List.replicate 8 0
theorem Ao4 (p : List UInt8) : (Aru p).length = 16 := by simp [Aru, Ant]
theorem Bd5 (p : List UInt8) (hp : p.length ≤ 64) : Ack p = some (Aru p, 0) := by
 have h := Bna (Ac4 p) 8 0 Au (by omega) (by have := Aq; omega)
 have h2 : Bfz (Ac4 p) = some (Aru p) := h
 rw [Ack, if_neg (by rw [As, Ac]; simp; omega), Bg1 p (by omega), Aa]
 simp only
 rw [if_neg (by rw [Am]; simp), h2, Aa]
theorem Bir (p : List UInt8) (hp : p.length ≤ 64) : Xs p = some (Aru p, 0) := by
 have h := Brw (Ac4 p) 8 0 Au (Ac4 p) (by omega) (by have := Aq; omega) (by simp)
 have h2 : Air (Ac4 p) = some (Aru p) := h
 rw [Xs, if_neg (by rw [As, Ac]; simp; omega), Afu, Aey, if_neg (by rw [As, Ac]; simp; omega), Bha p (by omega), Aa, Aa, Aa]
 simp only
 rw [h2, Aa]
end Go.Pl
set_option linter.unusedVariables false
set_option linter.unusedSimpArgs false
namespace Go.Pl
open Go Go.Lv
def u8 (z : Int) : UInt8 := UInt8.ofNat (z % 256).toNat
theorem Bf0 (z : Int) : u8 (z % 256) = u8 z := by rw [u8, u8]; congr 2; omega
def wB (bits : Int) : Nat := if bits = 8 then 1 else if bits = 16 then 2 else 3
theorem Brj {bits : Int} (h : Dj bits) : Cn bits 8 = (wB bits : Int) := by obtain rfl | rfl | rfl := h <;> rfl
theorem Bmw (bits : Int) : 1 ≤ wB bits ∧ wB bits ≤ 3 := by
 unfold wB; split; · omega
 ·split <;> omega
def Auq (bits : Int) (x : Int) : List UInt8 := if bits = 8 then [u8 (x + 128)] else if bits = 16 then [u8 x, u8 (x / 256)] else [u8 x, u8 (x / 256), u8 (x / 65536)]
theorem Bi7 (bits x : Int) : (Auq bits x).length ≤ 3 := by
 unfold Auq; split; · simp
 ·split <;> simp
theorem Brg (x : Int32) (k : Nat) (hk : k ≤ 32) : (Ad (Ci x k) : UInt8) = u8 (x.toInt.fdiv (2 ^ k)) := by
 have h := Aed x
 have e : Ci x k = Int32.ofInt (x.toInt.fdiv (2 ^ k)) := by
  show Int32.ofInt (x.toInt.fdiv (2 ^ min k 32)) = _
  rw [Nat.min_eq_left hk]
 have hb : -2147483648 ≤ x.toInt.fdiv (2 ^ k) ∧ x.toInt.fdiv (2 ^ k) < 2147483648 := by
  have hpos : (0 : Int) < 2 ^ k := Int.pow_pos (by omega)
  rw [Int.fdiv_eq_ediv_of_nonneg _ (by omega)]
  constructor
  ·refine (Int.le_ediv_iff_mul_le hpos).2 ?_
   have : (1 : Int) ≤ 2 ^ k := by omega
   have h2 : -2147483648 * (2 ^ k : Int) ≤ -2147483648 * 1 := Int.mul_le_mul_of_nonpos_left (by omega) this
   omega
  ·refine Int.ediv_lt_of_lt_mul hpos ?_
   have : (1 : Int) ≤ 2 ^ k := by omega
   have h2 : (2147483648 : Int) * 1 ≤ 2147483648 * 2 ^ k := Int.mul_le_mul_of_nonneg_left this (by omega)
   omega
 show UInt8.ofNat ((Ci x k).toInt % 256).toNat = _
 rw [e, Int32.toInt_ofInt, Int.bmod_eq_of_le (by show -(4294967296 / 2 : Int) ≤ _; omega) (by show _ < (4294967296 + 1) / 2; omega)]; rfl
section
variable (bk : Int → List UInt8 → Option (List UInt8 × Int)) (l : List Int32)
theorem Ayr {bits : Int} (h : Dj bits) (c : Int32) (x : Int) (i q : Nat) (acc : List UInt8) (hi : i < wB bits) (ha : acc.length ≤ 100000) :
  Ix bk bits l c x (q + 1) (i : Int) acc = Ix bk bits l c x q ((i + 1 : Nat) : Int) (acc ++ [u8 (c.toInt.fdiv (2 ^ (8 * i)))]) := by
 have hw := Bmw bits
 have e8 : Bq (8 : Int) (i : Int) = ((8 * i : Nat) : Int) := by rw [Ik (by omega) (by omega)]; omega
 rw [Ix, Abh, Brj h, if_pos (by rw [Af]; simp; omega), e8, Cp (by rw [Dt]; simp; omega), Aa, show (GI.toZ (((8 * i : Nat) : Int))).toNat = 8 * i from rfl, Brg _ _ (by omega), Ca (by simp; omega), Aa, Ah (by omega) (by omega)]; rfl
theorem Bkx {bits : Int} (h : Dj bits) (c : Int32) (x : Int) (q : Nat) (acc : List UInt8) : Ix bk bits l c x (q + 1) ((wB bits : Nat) : Int) acc = bk (Ae x 1) acc := by
 rw [Ix, Abh, Brj h, if_neg (by rw [Af]; simp), Ait, Aqb]
theorem Bx2 {bits : Int} (h : Dj bits) (c : Int32) (x : Int) (acc : List UInt8) (ha : acc.length ≤ 90000) (hr : -(hB bits) ≤ c.toInt ∧ c.toInt < hB bits) :
  Lb bk bits l x acc (if bits = 8 then Ae c (128 : Int32) else c) = bk (Ae x 1) (acc ++ Auq bits c.toInt) := by
 have e : Au = (Au - 4) + 1 + 1 + 1 + 1 := by have := Aq; omega
 have hc := Aed c
 rw [Lb, Aib, Ais, e]
 have g0 := fun (c : Int32) q acc ha => Ayr bk l h c x 0 q acc (by have := Bmw bits; omega) ha
 obtain rfl | rfl | rfl := h
 ·have hh : hB 8 = 128 := rfl
  rw [hh] at hr
  have e1 : (Ae c (128 : Int32)).toInt = c.toInt + 128 := by
   show (Int32.ofInt (c.toInt + (128 : Int32).toInt)).toInt = _
   rw [show (128 : Int32).toInt = 128 from rfl, Int32.toInt_ofInt, Int.bmod_eq_of_le (by show -(4294967296 / 2 : Int) ≤ _; omega) (by show _ < (4294967296 + 1) / 2; omega)]
  have g1 := Bkx bk l (bits := 8) (.inl rfl) (Ae c (128 : Int32)) x (Au - 4 + 1 + 1)
  rw [if_pos rfl, show (0 : Int) = ((0 : Nat) : Int) from rfl, g0 _ _ _ (by omega)]
  refine Eq.trans (g1 _) ?_
  rw [e1, Auq, if_pos rfl]
  show bk _ (acc ++ [u8 ((c.toInt + 128).fdiv 1)]) = _
  rw [Int.fdiv_one]
 ·have g1 := fun q acc ha => Ayr bk l (bits := 16) (.inr (.inl rfl)) c x 1 q acc (by decide) ha
  have g2 := Bkx bk l (bits := 16) (.inr (.inl rfl)) c x (Au - 4 + 1)
  rw [if_neg (by decide), show (0 : Int) = ((0 : Nat) : Int) from rfl, g0 _ _ _ (by omega), g1 _ _ (by simp; omega)]
  refine Eq.trans (g2 _) ?_
  rw [Auq, if_neg (by decide), if_pos rfl, List.append_assoc]
  show bk _ (acc ++ [u8 (c.toInt.fdiv 1), u8 (c.toInt.fdiv 256)]) = _
  rw [Int.fdiv_one, Int.fdiv_eq_ediv_of_nonneg _ (by omega)]
 ·have g1 := fun q acc ha => Ayr bk l (bits := 24) (.inr (.inr rfl)) c x 1 q acc (by decide) ha
  have g2 := fun q acc ha => Ayr bk l (bits := 24) (.inr (.inr rfl)) c x 2 q acc (by decide) ha
  have g3 := Bkx bk l (bits := 24) (.inr (.inr rfl)) c x (Au - 4)
  rw [if_neg (by decide), show (0 : Int) = ((0 : Nat) : Int) from rfl, g0 _ _ _ (by omega), g1 _ _ (by simp; omega), g2 _ _ (by simp; omega)]
  refine Eq.trans (g3 _) ?_
  rw [Auq, if_neg (by decide), if_neg (by decide), List.append_assoc, List.append_assoc]
  show bk _ (acc ++ [u8 (c.toInt.fdiv 1), u8 (c.toInt.fdiv 256), u8 (c.toInt.fdiv 65536)]) = _
  rw [Int.fdiv_one, Int.fdiv_eq_ediv_of_nonneg _ (by omega), Int.fdiv_eq_ediv_of_nonneg _ (by omega)]
end
def Uz (bits : Int) (l : List Int32) : List UInt8 := l.flatMap fun x => Auq bits x.toInt
theorem Aks (bits : Int) : ∀ l : List Int32, (Uz bits l).length ≤ 3 * l.length
 | [] => by simp [Uz]
 | x :: l => by
  have h1 := Aks bits l
  have h2 := Bi7 bits x.toInt
  simp only [Uz, List.flatMap_cons, List.length_append, List.length_cons] at *
  omega
def inR (bits : Int) (l : List Int32) : Prop := ∀ x ∈ l, -(hB bits) ≤ x.toInt ∧ x.toInt < hB bits
theorem Bnj {bits : Int} (h : Dj bits) (l : List Int32) (hl : l.length ≤ 4000) (hr : inR bits l) : ∀ (j i q : Nat), i + j = l.length → j < q → Ff bits l q (i : Int) (Uz bits (l.take i)) = some (Uz bits l, 0)
 | 0, i, q + 1, hi, _ => by
  rw [Ff, Abl, if_neg (by rw [Af, Ac]; simp; omega), List.take_of_length_le (by omega)]; rfl
 | j + 1, i, q + 1, hi, hq => by
  have hlt : i < l.length := by omega
  have ih := Bnj h l hl hr j (i + 1) q (by omega) (by omega)
  have hlen := Aks bits (l.take i)
  have hx := hr l[i] (List.getElem_mem _)
  have h1 := Bx2 (Ff bits l q) l h l[i] (i : Int) (Uz bits (l.take i)) (by rw [List.length_take] at hlen; omega) hx
  rw [Ff, Abl, if_pos (by rw [Af, Ac]; simp; omega), Cq hlt, Aa]
  have e : (if (geq bits (8 : Int)) = true then Lb (Ff bits l q) bits l (i : Int) (Uz bits (l.take i)) (Ae l[i] (128 : Int32)) else Lb (Ff bits l q) bits l (i : Int) (Uz bits (l.take i)) l[i]) = Lb (Ff bits l q) bits l (i : Int) (Uz bits (l.take i)) (if bits = 8 then Ae l[i] (128 : Int32) else l[i]) := by
   by_cases h8 : bits = 8
   ·rw [if_pos (by rw [Ba]; simpa using h8), if_pos h8]
   ·rw [if_neg (by rw [Ba]; simpa using h8), if_neg h8]
  rw [e, h1, Ah (by omega) (by omega)]
  rw [Aog hlt] at ih
  have e2 : Uz bits (l.take i ++ [l[i]]) = Uz bits (l.take i) ++ Auq bits l[i].toInt := by unfold Uz; rw [List.flatMap_append, List.flatMap_singleton]
  rw [e2] at ih
  exact ih
theorem Bdu {bits : Int} (h : Dj bits) {l : List Int32} (hl : l.length ≤ 4000) (hc : Bg bits l = some 0) : inR bits l := by
 have hh := Aw0 bits
 have key : ∀ (j i q : Nat), i + j = l.length → j < q → Be l (hB bits) q (i : Int) = some 0 → ∀ k, i ≤ k → (hk : k < l.length) → -(hB bits) ≤ l[k].toInt ∧ l[k].toInt < hB bits := by
  intro j
  induction j with
  | zero => intro i q hi hq _ k h1 h2; omega
  | succ j ih =>
   intro i q hi hq hs k h1 h2
   obtain ⟨q, rfl⟩ : ∃ k, q = k + 1 := ⟨q - 1, by omega⟩
   rw [Be, Db, if_pos (by rw [Af, Ac]; simp; omega), Cq (by omega), Aa, Aa, En, Bk9, Ce (by omega) (by omega), Ah (by omega) (by omega), Af, Dt] at hs
   by_cases g1 : l[i].toInt < 0 - hB bits
   ·rw [if_pos (by simpa using g1)] at hs; simp at hs
   ·rw [if_neg (by simpa using g1)] at hs
    by_cases g2 : hB bits ≤ l[i].toInt
    ·rw [if_pos (by simpa using g2)] at hs; simp at hs
    ·rw [if_neg (by simpa using g2)] at hs
     by_cases hk : k = i
     ·subst hk; omega
     ·exact ih (i + 1) q (by omega) (by omega) hs k (by omega) h2
 rw [Bg, Gd, Bcb h, Aa, if_neg (by rw [Ba]; simp; omega), if_neg (by rw [As, Ac]; simp; omega)] at hc
 have := key l.length 0 Au (by omega) (by have := Aq; omega) hc
 intro x hx
 obtain ⟨k, hk, rfl⟩ := List.getElem_of_mem hx
 exact this k (by omega) hk
theorem Bbv {bits : Int} (h : Dj bits) {l : List Int32} (hl : l.length ≤ 4000) (hc : Bg bits l = some 0) : Zm bits l = some (Uz bits l, 0) := by
 have h1 := Bnj h l hl (Bdu h hl hc) l.length 0 Au (by omega) (by have := Aq; omega)
 rw [Zm, Akw, Bb0 h l hl, hc, Aa, if_neg (by rw [Am]; simp)]
 exact h1
theorem Bwf {bits : Int} (h : Dj bits) (x : Int32) (hr : -(hB bits) ≤ x.toInt ∧ x.toInt < hB bits) : Aaf bits x = some (Auq bits x.toInt) := by
 have hx := Aed x
 have gu : ∀ z : Int, (Ad z : UInt8) = u8 z := fun z => rfl
 have hq : ∀ n : Int, 0 ≤ n → n ≤ 20000000 → Cn n (256 : Int) = n / 256 ∧ Cn n (65536 : Int) = n / 65536 := by
  intro n h1 h2
  constructor <;> (rw [Aij, Int.tdiv_eq_ediv_of_nonneg h1, Ce (by omega) (by omega)])
 have hm : ∀ n : Int, 0 ≤ n → Ig n (256 : Int) = n % 256 := fun n h1 => by rw [Ig, Int.tmod_eq_emod_of_nonneg h1]
 rw [Aaf, Aay, En]
 obtain rfl | rfl | rfl := h
 ·rw [if_pos (by rw [Ba]; rfl), Ah (by omega) (by omega), gu, Auq, if_pos rfl]
 ·have hh : hB 16 = 32768 := rfl
  rw [hh] at hr
  have hp : ∀ n : Int, 0 ≤ n → n ≤ 70000 → u8 n = u8 x.toInt → u8 (n / 256) = u8 (x.toInt / 256) → Iq 16 n = some (Auq 16 x.toInt) := by
   intro n h1 h2 h3 h4
   rw [Iq, Aam, if_neg (by rw [Ba]; decide), hm n h1, (hq n h1 (by omega)).1, hm _ (by omega), gu, gu, Bf0, Bf0, h3, h4, Auq, if_neg (by decide), if_pos rfl]
  rw [if_neg (by rw [Ba]; decide)]
  by_cases hn : x.toInt < 0
  ·rw [if_pos (by rw [Af]; simpa using hn), Bcb (.inr (.inl rfl)), Aa, hh, Ik (by omega) (by omega), Ah (by omega) (by omega)]
   refine hp _ (by omega) (by omega) ?_ ?_
   ·rw [u8, u8]; congr 2; omega
   ·rw [u8, u8]; congr 2; omega
  ·rw [if_neg (by rw [Af]; simpa using hn)]
   exact hp _ (by omega) (by omega) rfl rfl
 ·have hh : hB 24 = 8388608 := rfl
  rw [hh] at hr
  have hp : ∀ n : Int, 0 ≤ n → n ≤ 16777215 → u8 n = u8 x.toInt → u8 (n / 256) = u8 (x.toInt / 256) → u8 (n / 65536) = u8 (x.toInt / 65536) → Iq 24 n = some (Auq 24 x.toInt) := by
   intro n h1 h2 h3 h4 h5
   rw [Iq, Aam, if_pos (by rw [Ba]; rfl), hm n h1, (hq n h1 (by omega)).1, (hq n h1 (by omega)).2, hm _ (by omega), gu, gu, gu, Bf0, Bf0, h3, h4, h5, Ca (by simp), Aa, Auq, if_neg (by decide), if_neg (by decide)]; rfl
  rw [if_neg (by rw [Ba]; decide)]
  by_cases hn : x.toInt < 0
  ·rw [if_pos (by rw [Af]; simpa using hn), Bcb (.inr (.inr rfl)), Aa, hh, Ik (by omega) (by omega), Ah (by omega) (by omega)]
   refine hp _ (by omega) (by omega) ?_ ?_ ?_
   ·rw [u8, u8]; congr 2; omega
   ·rw [u8, u8]; congr 2; omega
   ·rw [u8, u8]; congr 2; omega
  ·rw [if_neg (by rw [Af]; simpa using hn)]
   exact hp _ (by omega) (by omega) rfl rfl rfl
theorem Bnu {bits : Int} (h : Dj bits) (l : List Int32) (hl : l.length ≤ 4000) (hr : inR bits l) : ∀ (j i q : Nat), i + j = l.length → j < q → Gf bits l q (i : Int) (Uz bits (l.take i)) = some (Uz bits l, 0)
 | 0, i, q + 1, hi, _ => by
  rw [Gf, Nw, if_neg (by rw [Af, Ac]; simp; omega), List.take_of_length_le (by omega)]; rfl
 | j + 1, i, q + 1, hi, hq => by
  have hlt : i < l.length := by omega
  have ih := Bnu h l hl hr j (i + 1) q (by omega) (by omega)
  have hlen := Aks bits (l.take i)
  have hol := Bi7 bits l[i].toInt
  rw [List.length_take] at hlen
  have e2 : Uz bits (l.take i ++ [l[i]]) = Uz bits (l.take i) ++ Auq bits l[i].toInt := by unfold Uz; rw [List.flatMap_append, List.flatMap_singleton]
  rw [Aog hlt, e2] at ih
  rw [Gf, Nw, if_pos (by rw [Af, Ac]; simp; omega), Cq hlt, Aa, Bwf h _ (hr l[i] (List.getElem_mem _)), Aa, Ca (by omega), Aa, Ah (by omega) (by omega)]
  exact ih
theorem Bdm {bits : Int} (h : Dj bits) {l : List Int32} (hl : l.length ≤ 4000) (hc : Bg bits l = some 0) : Uq bits l = some (Uz bits l, 0) := by
 have h1 := Bnu h l hl (Bdu h hl hc) l.length 0 Au (by omega) (by have := Aq; omega)
 rw [Uq, Wa, hc, Aa, if_neg (by rw [Am]; simp)]
 exact h1
end Go.Pl
set_option linter.unusedVariables false
set_option linter.unusedSimpArgs false
namespace Go.Pl
open Go Go.Lv
def Aof : List UInt8 → Nat → Int × Int
 | [], n => ((n : Int), 0)
 | c :: r, n => if 128 ≤ c.toNat then (0, 12) else Aof r (128 * n + c.toNat)
theorem Bmj : ∀ (l : List UInt8) (n k : Nat), n < 128 ^ k → 0 ≤ (Aof l n).1 ∧ (Aof l n).1 < ((128 ^ (k + l.length) : Nat) : Int)
 | [], n, k, h => by simp [Aof]; exact_mod_cast h
 | c :: r, n, k, h => by
  rw [Aof]
  split
  ·have : 0 < 128 ^ (k + (c :: r).length) := Nat.pow_pos (by omega)
   exact ⟨Int.le_refl _, by simp only; exact_mod_cast this⟩
  ·have := Bmj r (128 * n + c.toNat) (k + 1) (by rw [Nat.pow_succ]; omega)
   rw [List.length_cons, show k + (r.length + 1) = k + 1 + r.length by omega]
   exact this
theorem or7 (n c : Nat) (hn : n < 268435456) (hc : c < 128) : gor (Eh (n : Int) (GI.toZ (7 : UInt64)).toNat) (c : Int) = ((128 * n + c : Nat) : Int) := by
 have e : (GI.toZ (7 : UInt64)).toNat = 7 := rfl
 have h1 : Eh (n : Int) 7 = ((2 ^ 7 * n : Nat) : Int) := by
  have : Eh (n : Int) 7 = wrap64 ((n : Int) * 2 ^ 7) := rfl
  rw [this, Ce (by omega) (by omega)]; omega
 rw [e, h1]
 have h2 : gor ((2 ^ 7 * n : Nat) : Int) (c : Int) = wrap64 ((BitVec.ofInt 64 ((2 ^ 7 * n : Nat) : Int) ||| BitVec.ofInt 64 (c : Int)).toNat : Int) := rfl
 rw [h2, BitVec.toNat_or, BitVec.toNat_ofInt, BitVec.toNat_ofInt]
 have h3 : (((2 ^ 7 * n : Nat) : Int) % ((2 ^ 64 : Nat) : Int)).toNat = 2 ^ 7 * n := by omega
 have h4 : ((c : Int) % ((2 ^ 64 : Nat) : Int)).toNat = c := by omega
 rw [h3, h4, ← Nat.two_pow_add_eq_or_of_lt (by simpa using hc), Ce (by omega) (by omega)]
theorem Bng (b : List UInt8) (hb : b.length = 4) : ∀ (j i q n : Nat), i + j = 4 → j < q → n < 128 ^ i → Mr b q (n : Int) (i : Int) = some (Aof (b.drop i) n)
 | 0, i, q + 1, n, hi, _, _ => by
  rw [Mr, Zr, if_neg (by rw [Af, Ac]; simp; omega), show b.drop i = [] by simp; omega]; rfl
 | j + 1, i, q + 1, n, hi, hq, hn => by
  have hlt : i < b.length := by omega
  have hn2 : n < 268435456 := Nat.lt_of_lt_of_le hn (show 128 ^ i ≤ 128 ^ 4 from Nat.pow_le_pow_right (by omega) (by omega))
  rw [Mr, Zr, if_pos (by rw [Af, Ac]; simp; omega), Cq hlt, Aa, drop_cons hlt, Aof, Bqg]
  by_cases hc : 128 ≤ b[i].toNat
  ·rw [if_pos (by simp; omega), if_pos hc]
  ·rw [if_neg (by simp; omega), if_neg hc, Aj0, or7 n _ hn2 (by omega), Ah (by omega) (by omega)]
   exact Bng b hb j (i + 1) q _ (by omega) (by omega) (by rw [Nat.pow_succ]; omega)
theorem Brp (b : List UInt8) (hb : b.length = 4) : ∀ (j i q n : Nat), i + j = 4 → j < q → n < 128 ^ i → Gg b q (n : Int) (i : Int) = some (Aof (b.drop i) n)
 | 0, i, q + 1, n, hi, _, _ => by
  rw [Gg, Nu, if_neg (by rw [Af]; simp; omega), show b.drop i = [] by simp; omega]; rfl
 | j + 1, i, q + 1, n, hi, hq, hn => by
  have hlt : i < b.length := by omega
  have hn2 : n < 268435456 := Nat.lt_of_lt_of_le hn (show 128 ^ i ≤ 128 ^ 4 from Nat.pow_le_pow_right (by omega) (by omega))
  rw [Gg, Nu, if_pos (by rw [Af]; simp; omega), Cq hlt, Aa, drop_cons hlt, Aof, Btd]
  have h128 : (128 : UInt8).toNat = 128 := rfl
  by_cases hc : 128 ≤ b[i].toNat
  ·rw [if_pos (by simpa using hc), if_pos hc]
  ·have h3 := b[i].toNat_lt
   rw [if_neg (by simpa using hc), if_neg hc, Aa, Aj0, Ik (by omega) (by omega), Ah (by omega) (by omega), Ah (by omega) (by omega)]
   have := Brp b hb j (i + 1) q (128 * n + b[i].toNat) (by omega) (by omega) (by rw [Nat.pow_succ]; omega)
   rw [← this]; rfl
theorem Bk4 (b : List UInt8) (hb : b.length = 4) : Ags b = some (Aof b 0) := by
 have h := Bng b hb 4 0 Au 0 (by omega) (by have := Aq; omega) (by simp)
 rw [Ags, Afz, if_neg (by rw [Am, Ac]; simp; omega), Af8]; exact h
theorem Boc (b : List UInt8) (hb : b.length = 4) : Ux b = some (Aof b 0) := by
 have h := Brp b hb 4 0 Au 0 (by omega) (by have := Aq; omega) (by simp)
 rw [Ux, Ww, if_neg (by rw [Am, Ac]; simp; omega), Vx]; exact h
theorem Bkt {b : List UInt8} (hb : b.length = 4) : 0 ≤ (Aof b 0).1 ∧ (Aof b 0).1 < 268435456 := by
 have := Bmj b 0 0 (by simp)
 rw [hb] at this
 simpa using this
theorem Ape (s p : List UInt8) : Le s p = some (decide (p.length ≤ s.length ∧ s.take p.length = p)) := by
 rw [Le]
 by_cases h : p.length ≤ s.length
 ·rw [if_pos (by rw [Dt, Ac, Ac]; simp; omega), show Ac p = (p.length : Int) from rfl, Dh (by omega) (by omega), Aa, Fc, Aa, Int.toNat_natCast]
  congr 1
  rw [Bool.eq_iff_iff]; simp [h]
 ·rw [if_neg (by rw [Dt, Ac, Ac]; simp; omega)]
  simp [h]
def Ap9 (b : List UInt8) (n : Int) : Int × Int :=
 if 4000 < n then (0, 4) else if (b.length : Int) < n then (0, 24) else
 if b.getD 5 0 = 16 ∧ (b.take n.toNat).drop (n - 10).toNat ≠ [51, 68, 73] ++ part b 3 7 then (0, 12) else (n, 0)
def Bbs (b : List UInt8) (r : Int) : Int × Int := Ap9 b (r + 10 + (if b.getD 5 0 = 16 then 10 else 0))
def Alr (b : List UInt8) : Int × Int :=
 if ¬ (3 ≤ b.length ∧ b.take 3 = [73, 68, 51]) then (0, 6) else if b.length < 10 then (0, 24) else
 if (Aof (part b 6 4) 0).2 ≠ 0 ∨ b.getD 4 0 ≠ 0 ∨ ¬ ((b.getD 5 0 = 0 ∧ 2 ≤ (b.getD 3 0).toNat ∧ (b.getD 3 0).toNat ≤ 4) ∨ (b.getD 5 0 = 16 ∧ b.getD 3 0 = 4)) then (0, 12) else
 Bbs b (Aof (part b 6 4) 0).1
theorem Aue {b : List UInt8} {i : Nat} (h : i < b.length) : Ak b (i : Int) = some (b.getD i 0) := by
 rw [Cq h]; simp [List.getD_eq_getElem?_getD, h]
theorem Qa {b : List UInt8} (a w : Nat) (h : a + w ≤ b.length) : Bc b (a : Int) ((a + w : Nat) : Int) = some (part b a w) := by
 rw [Aft (by omega) (by omega) (by omega)]; rfl
theorem Bu2 (b : List UInt8) (r : Int) (h10 : 10 ≤ b.length) (h0 : 0 ≤ r) (h1 : r < 268435456) : Pu b r = some (Bbs b r) := by
 have g5 : Ak b (5 : Int) = some (b.getD 5 0) := Aue (i := 5) (by omega)
 have key : ∀ n : Int, 10 ≤ n → n < 268435500 → Pa b n = some (Ap9 b n) := by
  intro n hn hn2
  rw [Pa, Ahu, Ap9]
  by_cases c1 : 4000 < n
  ·rw [if_pos (by rw [As]; simpa using c1), if_pos c1]
  ·rw [if_neg (by rw [As]; simpa using c1), if_neg c1]
   by_cases c2 : (b.length : Int) < n
   ·rw [if_pos (by rw [Af, Ac]; simpa using c2), if_pos c2]
   ·have e3 : Bc b (3 : Int) (10 : Int) = some (part b 3 7) := Qa 3 7 (by omega)
    rw [if_neg (by rw [Af, Ac]; simpa using c2), if_neg c2, g5, Aa]
    by_cases c3 : b.getD 5 0 = 16
    ·rw [if_pos (by rw [Aox]; simpa using c3), Bh (by omega) (by omega), Aft (by omega) (by omega) (by omega), Aa, e3, Aa, Ca (by rw [Cy (by omega)]; simp), Aa]
     by_cases c4 : (b.take n.toNat).drop (n - 10).toNat = [51, 68, 73] ++ part b 3 7
     ·rw [if_neg (by simpa using c4), if_neg (by intro h; exact h.2 c4)]
     ·rw [if_pos (by simpa using c4), if_pos ⟨c3, c4⟩]
    ·rw [if_neg (by rw [Aox]; simpa using c3), if_neg (fun h => c3 h.1)]
 rw [Pu, Yq, g5, Aa, Bbs]
 by_cases c3 : b.getD 5 0 = 16
 ·rw [if_pos (by rw [Aox]; simpa using c3), Ah (by rw [Ah] <;> omega) (by rw [Ah] <;> omega), Ah (by omega) (by omega), key _ (by omega) (by omega), if_pos c3, show 10 + r + 10 = r + 10 + 10 by omega]
 ·rw [if_neg (by rw [Aox]; simpa using c3), Ah (by omega) (by omega), key _ (by omega) (by omega), if_neg c3, show 10 + r = r + 10 + 0 by omega]
theorem Bq5 (b : List UInt8) (hb : b.length < 4611686018427387904) : Xx b = some (Alr b) := by
 rw [Xx, Yp, Alr]
 by_cases h3 : 3 ≤ b.length
 ·rw [if_neg (by rw [Af, Ac]; simp; omega), Dh (by omega) (by omega), Aa]
  by_cases hp : b.take 3 = [73, 68, 51]
  ·rw [if_neg (by simpa using hp), if_neg (by simp [h3, hp]), Xz, Yo]
   by_cases h10 : b.length < 10
   ·rw [if_pos (by rw [Af, Ac]; simp; omega), if_pos h10]
   ·have e6 : Bc b (6 : Int) (10 : Int) = some (part b 6 4) := Qa 6 4 (by omega)
    have g3 : Ak b (3 : Int) = some (b.getD 3 0) := Aue (i := 3) (by omega)
    have g4 : Ak b (4 : Int) = some (b.getD 4 0) := Aue (i := 4) (by omega)
    have g5 : Ak b (5 : Int) = some (b.getD 5 0) := Aue (i := 5) (by omega)
    obtain ⟨v1, v2⟩ := Bkt (b := part b 6 4) (Cy (by omega))
    rw [if_neg (by rw [Af, Ac]; simp; omega), if_neg h10, e6, Aa, Boc _ (Cy (by omega)), Aa]
    have ht := Bu2 b (Aof (part b 6 4) 0).1 (by omega) v1 v2
    generalize Aof (part b 6 4) 0 = v at *
    obtain ⟨v, e⟩ := v
    simp only at ht v1 v2 ⊢
    simp only [Aa, g3, g4, g5, ht]
    generalize b.getD 3 0 = x at *
    generalize b.getD 4 0 = y at *
    generalize b.getD 5 0 = z at *
    simp only [Blj, Bxp, Bqg, Am]
    by_cases he : e = 0 <;> by_cases hy : y = 0 <;> by_cases hz : z = 0 <;> by_cases hz2 : z = 16 <;> by_cases hx : x = 4 <;> by_cases hx2 : x.toNat < 2 <;> by_cases hx4 : 4 < x.toNat <;> simp_all <;> (rw [if_neg (by omega), if_neg (by omega)])
  ·rw [if_pos (by simpa using hp), if_pos (by simp [hp])]
 ·rw [if_pos (by rw [Af, Ac]; simp; omega), if_pos (by simp [h3])]
theorem Bdy (b : List UInt8) (n : Int) (h10 : 10 ≤ b.length) (hn : 10 ≤ n) (hn2 : n < 268435500) : Abn b (b.getD 5 0) n = some (Ap9 b n) := by
 rw [Abn, Aqc]
 by_cases c1 : 4000 < n
 ·rw [if_pos (by rw [As]; simpa using c1), Ap9, if_pos c1]
 ·rw [if_neg (by rw [As]; simpa using c1)]
  by_cases c2 : (b.length : Int) < n
  ·rw [if_pos (by rw [Af, Ac]; simpa using c2), Ap9, if_neg c1, if_pos c2]
  ·have e3 : Bc b (3 : Int) (10 : Int) = some (part b 3 7) := Qa 3 7 (by omega)
   rw [if_neg (by rw [Af, Ac]; simpa using c2)]
   by_cases c3 : b.getD 5 0 = 16
   ·have hl : ((b.take n.toNat).drop (n - 10).toNat).length = 10 := by simp; omega
    have ht : Ap9 b n = if (b.take n.toNat).drop (n - 10).toNat ≠ [51, 68, 73] ++ part b 3 7 then (0, 12) else (n, 0) := by rw [Ap9, if_neg c1, if_neg c2]; simp only [c3, true_and]
    rw [if_pos (by rw [Aox]; simpa using c3), Bh (by omega) (by omega), Aft (by omega) (by omega) (by omega), Aa, ht]
    generalize (b.take n.toNat).drop (n - 10).toNat = f at *
    rw [Dh (by omega) (by omega), Aa, Cs (by omega) (by omega), Aa, e3, Aa, Fc, Aa]
    have hf : f = f.take 3 ++ f.drop 3 := (List.take_append_drop 3 f).symm
    by_cases c4 : f = [51, 68, 73] ++ part b 3 7
    ·subst c4
     simp
    ·by_cases c5 : f.take 3 = [51, 68, 73]
     ·have : f.drop 3 ≠ part b 3 7 := fun h => c4 (by rw [hf, c5, h])
      simp only [List.cons_append, List.nil_append] at c4
      simp [c4, c5, this]
     ·simp only [List.cons_append, List.nil_append] at c4
      simp [c4, c5]
   ·rw [if_neg (by rw [Aox]; simpa using c3), Ap9, if_neg c1, if_neg c2, if_neg (fun h => c3 h.1)]
theorem Bqe (b : List UInt8) (r : Int) (h10 : 10 ≤ b.length) (h0 : 0 ≤ r) (h1 : r < 268435456) : Abj b r (b.getD 5 0) = some (Bbs b r) := by
 rw [Abj, Aii, Bbs]
 by_cases c3 : b.getD 5 0 = 16
 ·rw [if_pos (by rw [Aox]; simpa using c3), Ah (by rw [Ah] <;> omega) (by rw [Ah] <;> omega), Ah (by omega) (by omega), Bdy b _ h10 (by omega) (by omega), if_pos c3]
 ·rw [if_neg (by rw [Aox]; simpa using c3), Ah (by omega) (by omega), Bdy b _ h10 (by omega) (by omega), if_neg c3]; simp
theorem Bo3 (b : List UInt8) (hb : b.length < 4611686018427387904) : Ajl b = some (Alr b) := by
 rw [Ajl, Abk, Ape, Aa]
 by_cases hp : 3 ≤ b.length ∧ b.take 3 = [73, 68, 51]
 ·rw [if_neg (by simpa using hp)]
  by_cases h10 : b.length < 10
  ·rw [if_pos (by rw [Af, Ac]; simp; omega), Alr, if_neg (fun h => h hp), if_pos h10]
  ·have e6 : Bc b (6 : Int) (10 : Int) = some (part b 6 4) := Qa 6 4 (by omega)
   have g3 : Ak b (3 : Int) = some (b.getD 3 0) := Aue (i := 3) (by omega)
   have g4 : Ak b (4 : Int) = some (b.getD 4 0) := Aue (i := 4) (by omega)
   have g5 : Ak b (5 : Int) = some (b.getD 5 0) := Aue (i := 5) (by omega)
   obtain ⟨v1, v2⟩ := Bkt (b := part b 6 4) (Cy (by omega))
   have ht := Bqe b (Aof (part b 6 4) 0).1 (by omega) v1 v2
   rw [if_neg (by rw [Af, Ac]; simp; omega), g3, Aa, g5, Aa, Aik, Ail, e6, Aa, Bk4 _ (Cy (by omega)), Aa, Alr, if_neg (fun h => h hp), if_neg h10]
   generalize Aof (part b 6 4) 0 = v at *
   obtain ⟨v, e⟩ := v
   simp only at ht v1 v2 ⊢
   simp only [Aa, g4, Ain, Aim]
   generalize b.getD 3 0 = x at *
   generalize b.getD 4 0 = y at *
   generalize b.getD 5 0 = z at *
   simp only [Blj, Bx3, Aox, Btd, Am]
   have e2 : (2 : UInt8).toNat = 2 := rfl
   have e4 : (4 : UInt8).toNat = 4 := rfl
   by_cases he : e = 0 <;> by_cases hy : y = 0 <;> by_cases hz : z = 0 <;> by_cases hz2 : z = 16 <;> by_cases hx : x = 4 <;> by_cases hx2 : 2 ≤ x.toNat <;> by_cases hx4 : x.toNat ≤ 4 <;> simp_all
 ·rw [if_pos (by rw [Bool.not_eq_true', decide_eq_false_iff_not]; exact hp), Alr, if_pos hp]
theorem Brs {b : List UInt8} {n : Int} (h : Alr b = (n, 0)) : 10 ≤ n ∧ n ≤ b.length ∧ n ≤ 4000 := by
 unfold Alr at h
 split at h; · simp at h
 split at h; · simp at h
 split at h; · simp at h
 rename_i h10 _
 obtain ⟨v1, v2⟩ := Bkt (b := part b 6 4) (Cy (by omega))
 unfold Bbs at h
 generalize hm : (Aof (part b 6 4) 0).1 + 10 + (if b.getD 5 0 = 16 then 10 else 0) = m at h
 unfold Ap9 at h
 split at h; · simp at h
 split at h; · simp at h
 split at h; · simp at h
 simp only [Prod.mk.injEq, and_true] at h
 subst h
 refine ⟨?_, by omega, by omega⟩
 rw [← hm]
 split <;> omega
end Go.Pl
set_option linter.unusedVariables false
set_option linter.unusedSimpArgs false
namespace Go.Pl
open Go Go.Lv
def APE : List UInt8 := [65, 80, 69, 84, 65, 71, 69, 88]
def Og (n m fl : Nat) : List UInt8 := APE ++ leB 2000 4 ++ leB (n + 32) 4 ++ leB m 4 ++ leB fl 4 ++ List.replicate 8 0
theorem Als {n : Nat} (h : n < 18446744073709551616) : (UInt64.ofNat n).toNat = n := by rw [UInt64.toNat_ofNat', Nat.mod_eq_of_lt h]
theorem Ass (n m : Int) (fl : UInt64) (c : UInt64) (i q : Nat) (acc : List UInt8) (hi : i < 6) (hc : Ak ([(2000 : UInt64), (Ad (Ae n (32 : Int)) : UInt64), (Ad m : UInt64), fl, (0 : UInt64), (0 : UInt64)] : List UInt64) (i : Int) = some c) (h : c.toNat < 4294967296) (ha : acc.length ≤ 1000000) :
  Abt n m fl (q + 1) (i : Int) acc = Abt n m fl q ((i + 1 : Nat) : Int) (acc ++ leB c.toNat 4) := by
 have hb := Bjx c 4 (by omega) (by omega) (by simpa using h)
 rw [Abt, Ap0, if_pos (by rw [Af, Ac]; simp; omega), hc, Aa, Aa, show ((4 : Int)) = ((4 : Nat) : Int) from rfl, hb, Aa]
 simp only
 rw [Ca (by rw [Ro]; omega), Aa, Ah (by omega) (by omega)]; rfl
theorem Ba6 (n m : Nat) (fl : UInt64) (hn : n ≤ 3000) (hm : m ≤ 1000) (hf : fl.toNat < 4294967296) : As0 (n : Int) (m : Int) fl = some (Og n m fl.toNat) := by
 have e1 : (Ad (Ae (n : Int) (32 : Int)) : UInt64).toNat = n + 32 := by rw [Ah (by omega) (by omega), show (n : Int) + 32 = ((n + 32 : Nat) : Int) by omega, Zs, Als (by omega)]
 have e2 : (Ad (m : Int) : UInt64).toNat = m := by rw [Zs, Als (by omega)]
 have hF : Au = (Au - 7) + 1 + 1 + 1 + 1 + 1 + 1 + 1 := by have := Aq; omega
 rw [As0, Aua, At8, hF]
 rw [show ((0 : Int)) = ((0 : Nat) : Int) from rfl, Ass n m fl 2000 0 _ _ (by omega) rfl (by decide) (by simp), Ass n m fl _ 1 _ _ (by omega) rfl (by rw [e1]; omega) (by simp [Ro]), Ass n m fl _ 2 _ _ (by omega) rfl (by rw [e2]; omega) (by simp [Ro]),
  Ass n m fl fl 3 _ _ (by omega) rfl hf (by simp [Ro]), Ass n m fl 0 4 _ _ (by omega) rfl (by decide) (by simp [Ro]), Ass n m fl 0 5 _ _ (by omega) rfl (by decide) (by simp [Ro]), e1, e2]
 rw [Abt, Ap0, if_neg (by rw [Af, Ac]; simp), At2, Bcc, Og]
 have z : leB (0 : UInt64).toNat 4 ++ leB (0 : UInt64).toNat 4 = List.replicate 8 0 := by decide
 have z2 : leB (2000 : UInt64).toNat 4 = leB 2000 4 := rfl
 rw [List.append_assoc _ (leB (0 : UInt64).toNat 4), z, z2]; rfl
theorem Av8 (n m : Nat) (fl : UInt64) (hn : n ≤ 3000) (hm : m ≤ 1000) (hf : fl.toNat < 4294967296) : Mq (n : Int) (m : Int) fl = some (Og n m fl.toNat) := by
 have e1 : (Ad (Ae (n : Int) (32 : Int)) : UInt64).toNat = n + 32 := by rw [Ah (by omega) (by omega), show (n : Int) + 32 = ((n + 32 : Nat) : Int) by omega, Zs, Als (by omega)]
 have e2 : (Ad (m : Int) : UInt64).toNat = m := by rw [Zs, Als (by omega)]
 have w : ∀ c : UInt64, Ct c 4 = some (leB c.toNat 4) := fun c => Azr c 4 (by omega)
 have z2 : leB (2000 : UInt64).toNat 4 = leB 2000 4 := rfl
 rw [Mq]
 simp only [w, e1, e2, Aa]
 rw [Ca (by simp [Ro]), Aa, Ca (by simp [Ro]), Aa, Ca (by simp [Ro]), Aa, Ca (by simp [Ro]), Aa, Bap (by omega) (by omega), Aa, Ca (by simp [Ro]), Aa, z2]; rfl
theorem Ajw {b : List UInt8} {a w k : Nat} (h : a + w ≤ k) : part (b.take k) a w = part b a w := by rw [part, part, List.take_take, Nat.min_eq_left h]
def Ahh (b : List UInt8) : Bool := decide (Dy (part b 12 4) < 32 ∨ 3032 < Dy (part b 12 4) ∨ 1000 < Dy (part b 16 4))
theorem Bql (b : List UInt8) (h : 20 ≤ b.length) : (((By (leU (part b 12 4)) (32 : UInt64)) || (Du (leU (part b 12 4)) (3032 : UInt64))) || (Du (leU (part b 16 4)) (1000 : UInt64))) = Ahh b := by
 rw [Ayz, Al8, Al8, Al2 (by rw [Cy (by omega)]; omega), Al2 (by rw [Cy (by omega)]; omega), Ahh]
 show ((decide (Dy (part b 12 4) < 32) || decide (3032 < Dy (part b 12 4))) || decide (1000 < Dy (part b 16 4))) = _
 simp [Bool.or_assoc]
theorem Aww (b : List UInt8) (h : 20 ≤ b.length) (hb : Ahh b = false) : Al (Ad (leU (part b 12 4)) : Int) (32 : Int) = ((Dy (part b 12 4) - 32 : Nat) : Int) ∧ (Ad (leU (part b 16 4)) : Int) = ((Dy (part b 16 4) : Nat) : Int) ∧ Dy (part b 12 4) - 32 ≤ 3000 ∧ Dy (part b 16 4) ≤ 1000 := by
 simp only [Ahh, decide_eq_false_iff_not] at hb
 refine ⟨?_, Agx (by rw [Cy (by omega)]; omega), by omega, by omega⟩
 rw [Agx (by rw [Cy (by omega)]; omega), Bh (by omega) (by omega)]; omega
theorem Aoo (b : List UInt8) (fl : UInt64) (h : 20 ≤ b.length) (hl : b.length < 4611686018427387904) (hf : fl.toNat < 4294967296) :
  Aj1 b fl = some (if Ahh b = true then (0, 0, false) else (((Dy (part b 12 4) - 32 : Nat) : Int), ((Dy (part b 16 4) : Nat) : Int), b == Og (Dy (part b 12 4) - 32) (Dy (part b 16 4)) fl.toNat)) := by
 have a1 : Ans b 12 4 = some (leU (part b 12 4), 0) := Beq b 12 4 (by omega) (by omega) (by omega) hl
 have a2 : Ans b 16 4 = some (leU (part b 16 4), 0) := Beq b 16 4 (by omega) (by omega) (by omega) hl
 rw [Aj1, a1, Aa]
 simp only
 rw [a2, Aa]
 simp only
 rw [Bql b h]
 cases hb : Ahh b with
 | true => rfl
 | false =>
  obtain ⟨i1, i2, i3, i4⟩ := Aww b h hb
  rw [i1, i2, Ba6 _ _ _ i3 i4 hf]
  rfl
theorem Bj3 (b : List UInt8) (h : 20 ≤ b.length) (hl : b.length < 4611686018427387904) :
  Ku b = some (if Ahh b = true then (0, 0, false) else (((Dy (part b 12 4) - 32 : Nat) : Int), ((Dy (part b 16 4) : Nat) : Int), true)) := by
 have a1 : Bc b 12 16 = some (part b 12 4) := Qa 12 4 (by omega)
 have a2 : Bc b 16 20 = some (part b 16 4) := Qa 16 4 (by omega)
 rw [Ku, a1, Aa, Bh7 _ (by rw [Cy (by omega)]; omega), Aa, a2, Aa, Bh7 _ (by rw [Cy (by omega)]; omega), Aa, Bql b h]
 cases hb : Ahh b with
 | true => rfl
 | false =>
  obtain ⟨i1, i2, i3, i4⟩ := Aww b h hb
  rw [i1, i2]; rfl
def Qu (b : List UInt8) : Int × Int :=
 if ¬ (8 ≤ b.length ∧ b.take 8 = APE) then (0, 6) else if b.length < 32 then (0, 24) else
 if Ahh b = true ∨ b.take 32 ≠ Og (Dy (part b 12 4) - 32) (Dy (part b 16 4)) 2684354560 then (0, 12) else
 if b.length < Dy (part b 12 4) + 32 then (0, 24) else
 if (b.take (Dy (part b 12 4) + 32)).drop (Dy (part b 12 4)) ≠ Og (Dy (part b 12 4) - 32) (Dy (part b 16 4)) 2147483648 then (0, 12) else (((Dy (part b 12 4) + 32 : Nat) : Int), 0)
theorem Biu (b : List UInt8) : Ahh (b.take 32) = Ahh b := by rw [Ahh, Ahh, Ajw (by omega), Ajw (by omega)]
section
variable {b : List UInt8}
theorem fa1 (h : ¬ (8 ≤ b.length ∧ b.take 8 = APE)) : Qu b = (0, 6) := by rw [Qu, if_pos h]
theorem fa2 (h : 8 ≤ b.length ∧ b.take 8 = APE) (h2 : b.length < 32) : Qu b = (0, 24) := by rw [Qu, if_neg (fun h' => h' h), if_pos h2]
variable (h : 8 ≤ b.length ∧ b.take 8 = APE) (h2 : ¬ b.length < 32)
include h h2
theorem fa3 (h3 : Ahh b = true) : Qu b = (0, 12) := by rw [Qu, if_neg (fun h' => h' h), if_neg h2, if_pos (.inl h3)]
theorem fa4 (h4 : b.take 32 ≠ Og (Dy (part b 12 4) - 32) (Dy (part b 16 4)) 2684354560) : Qu b = (0, 12) := by rw [Qu, if_neg (fun h' => h' h), if_neg h2, if_pos (.inr h4)]
variable (h3 : Ahh b = false) (h4 : b.take 32 = Og (Dy (part b 12 4) - 32) (Dy (part b 16 4)) 2684354560)
include h3 h4
theorem fa5 (h5 : b.length < Dy (part b 12 4) + 32) : Qu b = (0, 24) := by
 rw [Qu, if_neg (fun h' => h' h), if_neg h2, if_neg (fun h' => h'.elim (fun e => by rw [h3] at e; cases e) fun e => e h4), if_pos h5]
theorem fa6 (h5 : ¬ b.length < Dy (part b 12 4) + 32) (h6 : (b.take (Dy (part b 12 4) + 32)).drop (Dy (part b 12 4)) ≠ Og (Dy (part b 12 4) - 32) (Dy (part b 16 4)) 2147483648) : Qu b = (0, 12) := by
 rw [Qu, if_neg (fun h' => h' h), if_neg h2, if_neg (fun h' => h'.elim (fun e => by rw [h3] at e; cases e) fun e => e h4), if_neg h5, if_pos h6]
theorem fa7 (h5 : ¬ b.length < Dy (part b 12 4) + 32) (h6 : (b.take (Dy (part b 12 4) + 32)).drop (Dy (part b 12 4)) = Og (Dy (part b 12 4) - 32) (Dy (part b 16 4)) 2147483648) : Qu b = (((Dy (part b 12 4) + 32 : Nat) : Int), 0) := by
 rw [Qu, if_neg (fun h' => h' h), if_neg h2, if_neg (fun h' => h'.elim (fun e => by rw [h3] at e; cases e) fun e => e h4), if_neg h5, if_neg (fun h' => h' h6)]
end
theorem Blm (b : List UInt8) (hl : b.length < 4611686018427387904) : Asz b = some (Qu b) := by
 rw [Asz, Ape, Aa]
 by_cases hp : 8 ≤ b.length ∧ b.take 8 = APE
 ·rw [if_neg (by simpa [APE] using hp)]
  by_cases h32 : b.length < 32
  ·rw [if_pos (by rw [Af, Ac]; simp; omega), fa2 hp h32]
  ·have t := Aoo (b.take 32) 2684354560 (by simp; omega) (by simp; omega) (by decide)
   rw [Biu, Ajw (by omega), Ajw (by omega)] at t
   rw [if_neg (by rw [Af, Ac]; simp; omega), Dh (by omega) (by omega), Aa, show (32 : Int).toNat = 32 from rfl, t, Aa]
   cases hb : Ahh b with
   | true => rw [fa3 hp h32 hb]; simp
   | false =>
    obtain ⟨i1, i2, i3, i4⟩ := Aww b (by omega) hb
    have i5 : 32 ≤ Dy (part b 12 4) := by simp only [Ahh, decide_eq_false_iff_not] at hb; omega
    simp only [Bool.false_eq_true, if_false, false_or]
    by_cases c1 : b.take 32 = Og (Dy (part b 12 4) - 32) (Dy (part b 16 4)) 2684354560
    ·have c1' : b.take 32 = Og (Dy (part b 12 4) - 32) (Dy (part b 16 4)) (2684354560 : UInt64).toNat := c1
     rw [if_neg (by simpa using c1'), Ah (by omega) (by omega)]
     have e1 : ((Dy (part b 12 4) - 32 : Nat) : Int) + 64 = ((Dy (part b 12 4) + 32 : Nat) : Int) := by omega
     rw [e1]
     by_cases c2 : b.length < Dy (part b 12 4) + 32
     ·rw [if_pos (by rw [Af, Ac]; simp; omega), fa5 hp h32 hb c1 c2]
     ·rw [if_neg (by rw [Af, Ac]; simp; omega), Bh (by omega) (by omega), Aft (by omega) (by omega) (by omega), Aa, Ba6 _ _ _ i3 i4 (by decide), Aa, Fc, Aa]
      rw [show (((Dy (part b 12 4) + 32 : Nat) : Int)).toNat = Dy (part b 12 4) + 32 by omega, show (((Dy (part b 12 4) + 32 : Nat) : Int) - 32).toNat = Dy (part b 12 4) by omega]
      by_cases c3 : (b.take (Dy (part b 12 4) + 32)).drop (Dy (part b 12 4)) = Og (Dy (part b 12 4) - 32) (Dy (part b 16 4)) 2147483648
      ·have c3' : (b.take (Dy (part b 12 4) + 32)).drop (Dy (part b 12 4)) = Og (Dy (part b 12 4) - 32) (Dy (part b 16 4)) (2147483648 : UInt64).toNat := c3
       rw [if_neg (by simpa using c3'), fa7 hp h32 hb c1 c2 c3]
      ·have c3' : ¬ (b.take (Dy (part b 12 4) + 32)).drop (Dy (part b 12 4)) = Og (Dy (part b 12 4) - 32) (Dy (part b 16 4)) (2147483648 : UInt64).toNat := c3
       rw [if_pos (by simpa using c3'), fa6 hp h32 hb c1 c2 c3]
    ·have c1' : ¬ b.take 32 = Og (Dy (part b 12 4) - 32) (Dy (part b 16 4)) (2684354560 : UInt64).toNat := c1
     rw [if_pos (by simpa using c1'), fa4 hp h32 c1]
 ·rw [if_pos (by rw [Bool.not_eq_true', decide_eq_false_iff_not]; exact hp), fa1 hp]
theorem Bor (b : List UInt8) (hl : b.length < 4611686018427387904) : Us b = some (Qu b) := by
 rw [Us, Wz]
 by_cases h8 : 8 ≤ b.length
 ·rw [if_neg (by rw [Af, Ac]; simp; omega), Dh (by omega) (by omega), Aa, show (8 : Int).toNat = 8 from rfl]
  by_cases ha : b.take 8 = APE
  ·have hp := And.intro h8 ha
   rw [if_neg (by simpa [APE] using ha), Wx, Wn]
   by_cases h32 : b.length < 32
   ·rw [if_pos (by rw [Af, Ac]; simp; omega), fa2 hp h32]
   ·have t := Bj3 (b.take 32) (by simp; omega) (by simp; omega)
    rw [Biu, Ajw (by omega), Ajw (by omega)] at t
    rw [if_neg (by rw [Af, Ac]; simp; omega), Dh (by omega) (by omega), Aa, show (32 : Int).toNat = 32 from rfl, t, Aa]
    cases hb : Ahh b with
    | true => rw [fa3 hp h32 hb]; simp
    | false =>
     obtain ⟨i1, i2, i3, i4⟩ := Aww b (by omega) hb
     have i5 : 32 ≤ Dy (part b 12 4) := by simp only [Ahh, decide_eq_false_iff_not] at hb; omega
     simp only [Bool.false_eq_true, if_false, false_or, Aa, Bool.not_true]
     rw [Px, Av8 _ _ _ i3 i4 (by decide), Aa, Aa]
     by_cases c1 : b.take 32 = Og (Dy (part b 12 4) - 32) (Dy (part b 16 4)) 2684354560
     ·have c1' : b.take 32 = Og (Dy (part b 12 4) - 32) (Dy (part b 16 4)) (2684354560 : UInt64).toNat := c1
      rw [if_neg (by simpa using c1'), Wr, Afh, Ah (by omega) (by omega)]
      have e1 : 64 + ((Dy (part b 12 4) - 32 : Nat) : Int) = ((Dy (part b 12 4) + 32 : Nat) : Int) := by omega
      rw [e1]
      by_cases c2 : b.length < Dy (part b 12 4) + 32
      ·rw [if_pos (by rw [Af, Ac]; simp; omega), fa5 hp h32 hb c1 c2]
      ·rw [if_neg (by rw [Af, Ac]; simp; omega), Bh (by omega) (by omega), Aft (by omega) (by omega) (by omega), Aa, Di, if_pos rfl, Av8 _ _ _ i3 i4 (by decide), Aa, Aa]
       rw [show (((Dy (part b 12 4) + 32 : Nat) : Int)).toNat = Dy (part b 12 4) + 32 by omega, show (((Dy (part b 12 4) + 32 : Nat) : Int) - 32).toNat = Dy (part b 12 4) by omega]
       by_cases c3 : (b.take (Dy (part b 12 4) + 32)).drop (Dy (part b 12 4)) = Og (Dy (part b 12 4) - 32) (Dy (part b 16 4)) 2147483648
       ·have c3' : (b.take (Dy (part b 12 4) + 32)).drop (Dy (part b 12 4)) = Og (Dy (part b 12 4) - 32) (Dy (part b 16 4)) (2147483648 : UInt64).toNat := c3
        rw [if_neg (by simpa using c3'), fa7 hp h32 hb c1 c2 c3]
       ·have c3' : ¬ (b.take (Dy (part b 12 4) + 32)).drop (Dy (part b 12 4)) = Og (Dy (part b 12 4) - 32) (Dy (part b 16 4)) (2147483648 : UInt64).toNat := c3
        rw [if_pos (by simpa using c3'), fa6 hp h32 hb c1 c2 c3]
     ·have c1' : ¬ b.take 32 = Og (Dy (part b 12 4) - 32) (Dy (part b 16 4)) (2684354560 : UInt64).toNat := c1
      rw [if_pos (by simpa using c1'), fa4 hp h32 c1]
  ·rw [if_pos (by simpa [APE] using ha), fa1 (fun h => ha h.2)]
 ·rw [if_pos (by rw [Af, Ac]; simp; omega), fa1 (fun h => h8 h.1)]
theorem Bn5 {b : List UInt8} {n : Int} (h : Qu b = (n, 0)) : 64 ≤ n ∧ n ≤ b.length := by
 unfold Qu at h
 split at h; · simp at h
 split at h; · simp at h
 split at h; · simp at h
 rename_i hb
 split at h; · simp at h
 split at h; · simp at h
 simp only [Prod.mk.injEq, and_true] at h
 have hb' : ¬ Ahh b = true := fun e => hb (.inl e)
 simp only [Ahh, decide_eq_true_eq] at hb'
 omega
end Go.Pl
set_option linter.unusedVariables false
set_option linter.unusedSimpArgs false
namespace Go.Pl
open Go Go.Lv
def Dz (b : List UInt8) : Int × Int := if (Alr b).2 ≠ 6 then Alr b else Qu b
theorem size_eq (b : List UInt8) (hl : b.length < 4611686018427387904) : Yj b = some (Dz b) := by
 rw [Yj, Bo3 b hl, Aa, Blm b hl]
 by_cases h : (Alr b).2 = 6
 ·simp [Dz, h, Am]
 ·simp [Dz, h, Am]
theorem Ba3 {b : List UInt8} {n : Int} (h : Dz b = (n, 0)) : 10 ≤ n ∧ n ≤ b.length := by
 unfold Dz at h
 split at h
 ·have := Brs h; omega
 ·have := Bn5 h; omega
def Cl (b : List UInt8) : Nat → Nat → List Int × Int
 | 0, _ => ([], 6)
 | j + 1, p => if (Dz (b.drop p)).2 = 6 then ([], 0) else if (Dz (b.drop p)).2 ≠ 0 then ([], (Dz (b.drop p)).2) else
  if 4000 < (p : Int) + (Dz (b.drop p)).1 then ([], 4) else
  if (Cl b j (p + (Dz (b.drop p)).1.toNat)).2 = 0 then ((Dz (b.drop p)).1 :: (Cl b j (p + (Dz (b.drop p)).1.toNat)).1, 0) else ([], (Cl b j (p + (Dz (b.drop p)).1.toNat)).2)
theorem Awm (b : List UInt8) : ∀ (j p : Nat), p ≤ b.length → p ≤ 4000 → (Cl b j p).2 = 0 → (∀ x ∈ (Cl b j p).1, 10 ≤ x) ∧ (p : Int) + (Cl b j p).1.sum ≤ b.length ∧ (p : Int) + (Cl b j p).1.sum ≤ 4000
 | 0, p, _, _, h => by simp [Cl] at h
 | j + 1, p, hp, hq, h => by
  rw [Cl] at h ⊢
  split at h
  ·rename_i h6; rw [if_pos h6]; simp; omega
  ·rename_i h6
   split at h
   ·rename_i h0; exact absurd h h0
   ·rename_i h0
    rw [if_neg h6, if_neg h0]
    have hz : Dz (b.drop p) = ((Dz (b.drop p)).1, 0) := by rw [Prod.ext_iff]; exact ⟨rfl, Classical.not_not.1 h0⟩
    have hs := Ba3 hz
    rw [List.length_drop] at hs
    split at h
    ·simp at h
    ·rename_i h4
     rw [if_neg h4]
     split at h
     ·rename_i h00
      rw [if_pos h00]
      obtain ⟨i1, i2, i3⟩ := Awm b j _ (by omega) (by omega) h00
      refine ⟨fun x hx => ?_, ?_, ?_⟩
      ·rcases List.mem_cons.1 hx with rfl | hx
       ·exact hs.1
       ·exact i1 x hx
      ·simp only [List.sum_cons]; omega
      ·simp only [List.sum_cons]; omega
     ·rename_i h00; exact absurd h h00
def Bl3 (b : List UInt8) (j p : Nat) : Int × Int := if (Cl b j p).2 = 0 then ((p : Int) + (Cl b j p).1.sum, 0) else (0, (Cl b j p).2)
theorem Azc (b : List UInt8) (hl : b.length < 4611686018427387904) : ∀ (j p q : Nat), p ≤ b.length → p ≤ 4000 → b.length - p < j → j ≤ q → Vo b q (p : Int) = some (Bl3 b j p)
 | 0, p, q, _, _, h, _ => by omega
 | j + 1, p, q, hp, hp4, hj, hq => by
  obtain ⟨q, rfl⟩ : ∃ k, q = k + 1 := ⟨q - 1, by omega⟩
  rw [Vo, Cs (by omega) (by omega), Aa, Int.toNat_natCast, size_eq _ (by simp; omega), Aa, Ba, Ba, Am, Bl3]
  by_cases h6 : (Dz (b.drop p)).2 = 6
  ·rw [if_pos (by simpa using h6)]
   have : Cl b (j + 1) p = ([], 0) := by rw [Cl, if_pos h6]
   rw [this]; simp
  ·rw [if_neg (by simpa using h6)]
   by_cases h0 : (Dz (b.drop p)).2 = 0
   ·have hz : Dz (b.drop p) = ((Dz (b.drop p)).1, 0) := by rw [Prod.ext_iff]; exact ⟨rfl, h0⟩
    have hs := Ba3 hz
    rw [List.length_drop] at hs
    rw [Ah (by omega) (by omega), As]
    by_cases h4 : 4000 < (p : Int) + (Dz (b.drop p)).1
    ·rw [if_pos (by simp [h0]; omega)]
     have : Cl b (j + 1) p = ([], 4) := by rw [Cl, if_neg h6, if_neg (fun h => h h0), if_pos h4]
     rw [this]; simp
    ·rw [if_neg (by simp [h0]; omega), if_neg (by simpa using h0)]
     have ih := Azc b hl j (p + (Dz (b.drop p)).1.toNat) q (by omega) (by omega) (by omega) (by omega)
     rw [show (p : Int) + (Dz (b.drop p)).1 = ((p + (Dz (b.drop p)).1.toNat : Nat) : Int) by omega, ih, Bl3]
     have : Cl b (j + 1) p = if (Cl b j (p + (Dz (b.drop p)).1.toNat)).2 = 0 then ((Dz (b.drop p)).1 :: (Cl b j (p + (Dz (b.drop p)).1.toNat)).1, 0) else ([], (Cl b j (p + (Dz (b.drop p)).1.toNat)).2) := by
      rw [Cl, if_neg h6, if_neg (fun h => h h0), if_neg h4]
     rw [this]
     by_cases hr : (Cl b j (p + (Dz (b.drop p)).1.toNat)).2 = 0
     ·simp only [hr, if_true, List.sum_cons]; congr 2; omega
     ·simp only [hr, if_false]
   ·rw [if_neg (by simp [h0]), if_pos (by simpa using h0)]
    have : Cl b (j + 1) p = ([], (Dz (b.drop p)).2) := by rw [Cl, if_neg h6, if_pos h0]
    rw [this]; simp [h0]
def Bso (b : List UInt8) (j p : Nat) (xs : List Int) : List Int × Int := if (Cl b j p).2 = 0 then (xs ++ (Cl b j p).1, 0) else ([], (Cl b j p).2)
theorem Bs8 (bk : Int → List Int → Option (List Int × Int)) (b : List UInt8) (p : Nat) (hp : p ≤ b.length) (xs : List Int) (hx : xs.length ≤ 4000) (hl : b.length < 4611686018427387904) : Nv (Jh bk b) b (p : Int) xs = Jh bk b (p : Int) xs (Dz (b.drop p)).1 (Dz (b.drop p)).2 := by
 have hf := Bor (b.drop p) (by simp; omega)
 rw [Nv, Cs (by omega) (by omega), Aa, Int.toNat_natCast, Bq5 _ (by simp; omega), Aa]
 by_cases h : (Alr (b.drop p)).2 = 6
 ·simp [Dz, h, Ba, hf]
 ·simp [Dz, h, Ba]
theorem Bdz (b : List UInt8) (hl : b.length < 4611686018427387904) : ∀ (j p q : Nat) (xs : List Int), p ≤ b.length → p ≤ 4000 → b.length - p < j → j ≤ q → xs.length ≤ p → Jf b q (p : Int) xs = some (Bso b j p xs)
 | 0, p, q, _, _, _, h, _, _ => by omega
 | j + 1, p, q, xs, hp, hp4, hj, hq, hx => by
  obtain ⟨q, rfl⟩ : ∃ k, q = k + 1 := ⟨q - 1, by omega⟩
  rw [Jf, Bs8 _ b p hp xs (by omega) hl, Jh, Ae9, Ba, Am, Bso]
  by_cases h6 : (Dz (b.drop p)).2 = 6
  ·rw [if_pos (by simpa using h6)]
   have : Cl b (j + 1) p = ([], 0) := by rw [Cl, if_pos h6]
   rw [this]; simp
  ·rw [if_neg (by simpa using h6)]
   by_cases h0 : (Dz (b.drop p)).2 = 0
   ·have hz : Dz (b.drop p) = ((Dz (b.drop p)).1, 0) := by rw [Prod.ext_iff]; exact ⟨rfl, h0⟩
    have hs := Ba3 hz
    rw [List.length_drop] at hs
    rw [if_neg (by simpa using h0), Ah (by omega) (by omega), As]
    by_cases h4 : 4000 < (p : Int) + (Dz (b.drop p)).1
    ·rw [if_pos (by simp; omega)]
     have : Cl b (j + 1) p = ([], 4) := by rw [Cl, if_neg h6, if_neg (fun h => h h0), if_pos h4]
     rw [this]; simp
    ·rw [if_neg (by simp; omega), Ca (by simp; omega), Aa]
     have ih := Bdz b hl j (p + (Dz (b.drop p)).1.toNat) q (xs ++ [(Dz (b.drop p)).1]) (by omega) (by omega) (by omega) (by omega) (by simp; omega)
     rw [show (p : Int) + (Dz (b.drop p)).1 = ((p + (Dz (b.drop p)).1.toNat : Nat) : Int) by omega, ih, Bso]
     have : Cl b (j + 1) p = if (Cl b j (p + (Dz (b.drop p)).1.toNat)).2 = 0 then ((Dz (b.drop p)).1 :: (Cl b j (p + (Dz (b.drop p)).1.toNat)).1, 0) else ([], (Cl b j (p + (Dz (b.drop p)).1.toNat)).2) := by
      rw [Cl, if_neg h6, if_neg (fun h => h h0), if_neg h4]
     rw [this]
     by_cases hr : (Cl b j (p + (Dz (b.drop p)).1.toNat)).2 = 0
     ·simp only [hr, if_true]; simp
     ·simp only [hr, if_false]
   ·rw [if_pos (by simpa using h0)]
    have : Cl b (j + 1) p = ([], (Dz (b.drop p)).2) := by rw [Cl, if_neg h6, if_pos h0]
    rw [this]; simp [h0]
theorem Ays : ∀ {l : List Int}, (∀ x ∈ l, 10 ≤ x) → 0 ≤ l.sum ∧ (l.length : Int) ≤ l.sum
 | [], _ => by simp
 | x :: l, h => by
  have h1 := h x List.mem_cons_self
  have h2 := Ays (l := l) fun y hy => h y (List.mem_cons_of_mem _ hy)
  simp only [List.sum_cons, List.length_cons]; omega
theorem Azl (r : Int) (l : List Int) (hl : l.length ≤ 4000) (hx : ∀ x ∈ l, 10 ≤ x) : ∀ (j i q : Nat) (n : Int), i + j = l.length → j < q → 0 ≤ n → n + (l.drop i).sum ≤ 4000 → Gm r l q n (i : Int) = some (n + (l.drop i).sum, r)
 | 0, i, q + 1, n, hi, _, _, _ => by
  rw [Gm, Nt, if_neg (by rw [Af, Ac]; simp; omega), show i = l.length by omega, List.drop_length]
  simp [Xe, Afs]
 | j + 1, i, q + 1, n, hi, hq, hn, hs => by
  have hlt : i < l.length := by omega
  rw [drop_cons hlt, List.sum_cons] at hs ⊢
  have h1 := hx l[i] (List.getElem_mem hlt)
  have h2 := Ays (l := l.drop (i + 1)) fun y hy => hx y (List.mem_of_mem_drop hy)
  rw [Gm, Nt, if_pos (by rw [Af, Ac]; simp; omega), Cq hlt, Aa, Aa, Ah (by omega) (by omega), Ah (by omega) (by omega)]
  have ih := Azl r l hl hx j (i + 1) q (n + l[i]) (by omega) (by omega) (by omega) (by omega)
  rw [show ((i : Int) + 1) = ((i + 1 : Nat) : Int) by omega, ih]
  congr 2; omega
def Gu (b : List UInt8) : Int × Int := Bl3 b (b.length + 1) 0
theorem Ak6 (b : List UInt8) (hl : b.length < 4611686018427387904) : Kc b = some (Gu b) := by
 have := Azc b hl (b.length + 1) 0 Au (by omega) (by omega) (by omega) (by have := Aq; omega)
 exact this
theorem Au9 (b : List UInt8) (hl : b.length < 4611686018427387904) : Mu b = some (Gu b) := by
 have h := Bdz b hl (b.length + 1) 0 Au [] (by omega) (by omega) (by omega) (by have := Aq; omega) (by simp)
 have h' : Aby b = some (Bso b (b.length + 1) 0 []) := h
 rw [Mu, Wt, h', Aa, Gu, Bl3, Bso]
 have ho := Awm b (b.length + 1) 0 (by omega) (by omega)
 by_cases h0 : (Cl b (b.length + 1) 0).2 = 0
 ·obtain ⟨i1, i2, i3⟩ := ho h0
  have hp := Ays i1
  simp only [h0, if_true, List.nil_append]
  have := Azl 0 (Cl b (b.length + 1) 0).1 (by omega) i1 (Cl b (b.length + 1) 0).1.length 0 Au 0 (by omega) (by have := Aq; omega) (by omega) (by simpa using i3)
  simpa [Ny] using this
 ·simp only [h0, if_false]
  have := Azl (Cl b (b.length + 1) 0).2 [] (by simp) (by simp) 0 0 Au 0 (by simp) (by have := Aq; omega) (by omega) (by simp)
  simpa [Ny] using this
theorem Asu {b : List UInt8} (h : (Gu b).2 = 0) : 0 ≤ (Gu b).1 ∧ (Gu b).1 ≤ b.length ∧ (Gu b).1 ≤ 4000 := by
 unfold Gu Bl3 at h ⊢
 split at h
 ·rename_i h0
  rw [if_pos h0]
  obtain ⟨i1, i2, i3⟩ := Awm b (b.length + 1) 0 (by omega) (by omega) h0
  have hp := Ays i1
  exact ⟨by simp; omega, i2, i3⟩
 ·rename_i h0; exact absurd h h0
end Go.Pl
set_option linter.unusedVariables false
set_option linter.unusedSimpArgs false
namespace Go.Pl
open Go Go.Lv
def longN (r : Nat) : Nat := max 1 (256 * r / 245)
theorem Ajy (r : Nat) : 1 ≤ longN r := Nat.le_max_left _ _
theorem Azo {r : Nat} (h : r ≤ 1048576) : longN r ≤ 1100000 := by unfold longN; omega
theorem Bjr {r : Nat} (h : r ≤ 1048576) : Ate (1 : Int) (Cn (Bq (256 : Int) (r : Int)) (245 : Int)) = (longN r : Int) := by
 rw [Ik (by omega) (by omega), Aij, Int.tdiv_eq_ediv_of_nonneg (by omega), Ce (by omega) (by omega), Bk8, longN]; omega
def framesL (g n : Nat) : List Int := List.replicate ((n - 1) / g) (g : Int) ++ [((n - (n - 1) / g * g : Nat) : Int)]
theorem Axp (g n : Nat) : (framesL g n).length = (n - 1) / g + 1 := by simp [framesL]
theorem Bcz {g n : Nat} (h : n ≤ g) (h1 : 1 ≤ n) : framesL g n = [(n : Int)] := by
 rw [framesL, Nat.div_eq_of_lt (by omega)]; simp
theorem Bhz {g n : Nat} (hg : 1 ≤ g) (h : g < n) : framesL g n = (g : Int) :: framesL g (n - g) := by
 have e : (n - 1) / g = (n - g - 1) / g + 1 := by rw [← Nat.add_div_right _ (by omega)]; congr 1; omega
 rw [framesL, framesL, e, List.replicate_succ, List.cons_append]
 congr 4
 have := Nat.div_mul_le_self (n - g - 1) g
 rw [Nat.add_mul, Nat.one_mul]; omega
theorem Avf {g n : Nat} (hg : 1 ≤ g) (h1 : 1 ≤ n) : (n + g - 1) / g = (n - 1) / g + 1 := by
 rw [← Nat.add_div_right _ (by omega)]; congr 1; omega
theorem Bdd {r : Nat} (h1 : 1 ≤ r) (h : r ≤ 1048576) : Ad3 (r : Int) = some ((longN r : Int), 0) := by
 rw [Ad3, if_neg (by simp [Af, As]; omega), Bjr h]
theorem Btf {r : Nat} (h : r ≤ 1048576) : Qg (r : Int) = some (longN r : Int) := by rw [Qg, Bjr h]
theorem Baw {r n : Nat} (h1 : 1 ≤ r) (h : r ≤ 1048576) (n1 : 1 ≤ n) (n2 : n ≤ 4000) : Aa6 (r : Int) (n : Int) = some (if 1000 < (n - 1) / longN r + 1 then (0, 4) else ((((n - 1) / longN r + 1 : Nat) : Int), 0)) := by
 have hp := Ajy r
 have hl := Azo h
 have e : Cn (Al (Ae (n : Int) (longN r : Int)) (1 : Int)) (longN r : Int) = (((n - 1) / longN r + 1 : Nat) : Int) := by
  have : (n + longN r - 1) / longN r ≤ n + longN r - 1 := Nat.div_le_self _ _
  rw [Ah (by omega) (by omega), Bh (by omega) (by omega), Aij, Int.tdiv_eq_ediv_of_nonneg (by omega), show (n : Int) + (longN r : Int) - 1 = ((n + longN r - 1 : Nat) : Int) by omega, ← Int.natCast_ediv, Avf hp n1]
  rw [Avf hp n1] at this
  generalize (n - 1) / longN r = k at *
  exact Ce (by omega) (by omega)
 rw [Aa6, Bdd h1 h, Aa]
 simp only
 rw [if_neg (by rw [Am]; simp), if_neg (by simp [Af, As]; omega), Cp (by rw [Am]; simp; omega), Aa, e]
 by_cases hk : 1000 < (n - 1) / longN r + 1
 ·rw [if_pos (by rw [As]; simp; omega), if_pos hk]
 ·rw [if_neg (by rw [As]; simp; omega), if_neg hk]
theorem Bb7 {r : Nat} (h : r ≤ 1048576) : ∀ (j n q : Nat) (acc : List Int), n ≤ 4000 → n ≤ j → j < q → acc.length + n ≤ 10000 → Da (r : Int) q (n : Int) acc = some (acc ++ (if n = 0 then [] else framesL (longN r) n))
 | 0, n, q + 1, acc, hn, hj, hq, ha => by
  obtain rfl : n = 0 := by omega
  rw [Da, Gi, if_neg (by rw [As]; simp)]
  simp [Je, Nq]
 | j + 1, n, q + 1, acc, hn, hj, hq, ha => by
  have hp := Ajy r
  have hl := Azo h
  by_cases h0 : n = 0
  ·subst h0
   rw [Da, Gi, if_neg (by rw [As]; simp)]
   simp [Je, Nq]
  ·rw [Da, Gi, if_pos (by rw [As]; simp; omega), Btf h, Aa, Ca (by simp; omega), Aa, Aa, Bh (by omega) (by omega), Amq]
   by_cases hs : n ≤ longN r
   ·rw [show min (n : Int) (longN r : Int) = (n : Int) by omega, if_neg h0, Bcz hs (by omega)]
    have hz : ∃ k, q = k + 1 := ⟨q - 1, by omega⟩
    obtain ⟨q, rfl⟩ := hz
    rw [Da, Gi, if_neg (by rw [As]; simp; omega)]
    simp [Je, Nq]
   ·rw [show min (n : Int) (longN r : Int) = (longN r : Int) by omega, show (n : Int) - (longN r : Int) = ((n - longN r : Nat) : Int) by omega, Bb7 h j (n - longN r) q _ (by omega) (by omega) (by omega) (by simp; omega), if_neg (by omega), if_neg h0, Bhz hp (show longN r < n by omega)]
    simp
theorem Ay9 {r n : Nat} (h : r ≤ 1048576) (n1 : 1 ≤ n) (n2 : n ≤ 4000) : Jj (r : Int) (n : Int) = some (framesL (longN r) n) := by
 have := Bb7 h n n Au [] n2 (Nat.le_refl _) (by have := Aq; omega) (by simp; omega)
 rw [Jj, Xd, Wq, this, if_neg (by omega)]; rfl
theorem mul_one (m : Nat) (h : m ≤ 100000) : Agt (1 : UInt64) (UInt64.ofNat m) = some (0, UInt64.ofNat m) := by
 have y1 : (UInt64.ofNat m).toNat = m := Als (by omega)
 have s1 : Ci (1 : UInt64) (GI.toZ (32 : UInt64)).toNat = 0 := by decide
 have s2 : Ci (UInt64.ofNat m) (GI.toZ (32 : UInt64)).toNat = 0 := by
  apply UInt64.toNat_inj.1
  rw [Aei, y1]
  exact Nat.div_eq_of_lt (Nat.lt_of_le_of_lt h (by decide))
 have s0 : Ci (0 : UInt64) (GI.toZ (32 : UInt64)).toNat = 0 := by decide
 have a1 : Hr (1 : UInt64) (4294967295 : UInt64) = 1 := by decide
 have a0 : Hr (0 : UInt64) (4294967295 : UInt64) = 0 := by decide
 have a2 : Hr (UInt64.ofNat m) (4294967295 : UInt64) = UInt64.ofNat m := by
  apply UInt64.toNat_inj.1
  rw [Avy, UInt64.toNat_and, y1]
  show m &&& (2 ^ 32 - 1) = m
  rw [Nat.and_two_pow_sub_one_eq_mod, Nat.mod_eq_of_lt (by omega)]
 have m1 : ∀ x : UInt64, Bq 1 x = x := fun x => by rw [Ag7, UInt64.one_mul]
 have m0 : ∀ x : UInt64, Bq 0 x = 0 := fun x => by rw [Ag7, UInt64.zero_mul]
 have p0 : ∀ x : UInt64, Ae 0 x = x := fun x => by rw [Ag8, UInt64.zero_add]
 have p1 : ∀ x : UInt64, Ae x 0 = x := fun x => by rw [Ag8, UInt64.add_zero]
 rw [Agt, Ah6]
 simp only [s1, s2, a1, a2, m1, m0, p0, p1, s0, a0, Aa]
theorem Axu (v : Int) (m : Nat) (hm : m ≤ 100000) : ∀ (j n q : Nat), 1 ≤ n → n ≤ m → m - n ≤ j → j < q → Dv q (n : Int) (List.replicate n v ++ List.replicate (m - n) 0) = some (List.replicate m v)
 | j, n, q + 1, hn, hnm, hj, hq => by
  have hlen : Ac (List.replicate n v ++ List.replicate (m - n) 0) = (m : Int) := by simp [Ac]; omega
  rw [Dv, Gv, hlen]
  by_cases h : n < m
  ·obtain ⟨j, rfl⟩ : ∃ k, j = k + 1 := ⟨j - 1, by omega⟩
   rw [if_pos (by rw [Af]; simp; omega)]
   have v1 : vwI (m : Int) (n : Int) (m : Int) = some () := by rw [vwI, Cp]; simp; omega
   have v2 : vwI (m : Int) (0 : Int) (n : Int) = some () := by rw [vwI, Cp]; simp; omega
   have e1 : Anz (List.replicate n v ++ List.replicate (m - n) 0) (0 : Int) ((n : Int) - 0) = List.replicate n v := by
    simp [Anz]
   rw [v1, Aa, v2, Aa, e1]
   have e2 : Ako ((m : Int) - (n : Int)) (List.replicate n v).length = ((min n (m - n) : Nat) : Int) := by
    rw [Ako, List.length_replicate]; split <;> omega
   have e3 : Wl (List.replicate n v ++ List.replicate (m - n) 0) (n : Int) ((m : Int) - (n : Int)) (List.replicate n v) = List.replicate (n + min n (m - n)) v ++ List.replicate (m - (n + min n (m - n))) 0 := by
    have t1 : ((m : Int) - (n : Int)).toNat = m - n := by omega
    have t2 : (List.replicate n v ++ List.replicate (m - n) (0 : Int)).take n = List.replicate n v := by simp
    rw [Wl, t1, Int.toNat_natCast, t2, List.take_replicate, List.length_replicate, ← List.append_assoc, List.replicate_append_replicate, List.drop_append, List.length_replicate, Nat.min_comm (m - n) n]
    simp only [List.drop_replicate]
    rw [show n - (n + min n (m - n)) = 0 by omega, List.replicate_zero, List.nil_append, show m - n - (n + min n (m - n) - n) = m - (n + min n (m - n)) by omega]
   rw [e2, e3, Ah (by omega) (by omega), show (n : Int) + ((min n (m - n) : Nat) : Int) = ((n + min n (m - n) : Nat) : Int) by omega]
   exact Axu v m hm j (n + min n (m - n)) q (by omega) (by omega) (by omega) (by omega)
  ·rw [if_neg (by rw [Af]; simp; omega)]
   obtain rfl : n = m := by omega
   simp [Jd, On]
theorem Bov (v : Int) (m : Nat) (hm : m ≤ 100000) : Nz [v] (m : Int) = some (List.replicate m v) := by
 have y1 : (UInt64.ofNat m).toNat = m := Als (by omega)
 have c1 : (Ad (Ac [v]) : UInt64) = 1 := by rfl
 have c2 : (Ad (m : Int) : UInt64) = UInt64.ofNat m := Zs m
 have c3 : (Ad (UInt64.ofNat m) : Int) = (m : Int) := by rw [Awh (by omega), y1]
 rw [Nz, Qm, if_neg (by rw [Af]; simp), Qt, Qy, c1, c2, mul_one m hm, Aa]
 simp only
 rw [if_neg (by rw [Al8, Al8, y1]; simp; show m ≤ 9223372036854775807; omega), Qn, Qv, c3, Bap (by omega) (by omega), Aa, Cp (by rw [Ba]; simp), Aa, Qw, Int.toNat_natCast]
 by_cases h0 : m = 0
 ·subst h0
  have hF : Au = (Au - 1) + 1 := by have := Aq; omega
  rw [hF, Dv, Gv]
  simp [Ac, Azd, Ako, Af, Jd, On]
 ·have := Axu v m hm m 1 Au (by omega) (by omega) (by omega) (by have := Aq; omega)
  have e1 : Ako (Ac (List.replicate m (0 : Int))) [v].length = ((1 : Nat) : Int) := by simp [Ako, Ac]; omega
  have e2 : Azd (List.replicate m (0 : Int)) [v] = List.replicate 1 v ++ List.replicate (m - 1) 0 := by
   obtain ⟨k, rfl⟩ : ∃ k, m = k + 1 := ⟨m - 1, by omega⟩
   simp [Azd]
  rw [e1, e2, this]
theorem Bpw (l m : List Int) (h : l.length + m.length ≤ 1000000) : Nx [l, m] = some (l ++ m) := by
 have hF : Au = (Au - 3) + 1 + 1 + 1 := by have := Aq; omega
 rw [Nx, Qz, Qo]
 have g0 : Ak [l, m] (0 : Int) = some l := rfl
 have g1 : Ak [l, m] (1 : Int) = some m := rfl
 have l2 : Ac [l, m] = 2 := rfl
 have h3 : Jc [l, m] [] = some (l ++ m) := by
  rw [Jc, Oi, Of, hF, Dm, Fp, l2, if_pos (by decide), g0, Aa, Ca (by simp; omega), Aa, List.nil_append, show Ae (0 : Int) 1 = 1 by decide,
   Dm, Fp, l2, if_pos (by decide), g1, Aa, Ca (by omega), Aa, show Ae (1 : Int) 1 = 2 by decide, Dm, Fp, l2, if_neg (by decide)]
  rfl
 rw [hF, Dw, Gp, l2, if_pos (by decide), g0, Aa, Ah (by unfold Ac; omega) (by unfold Ac; omega), if_neg (by rw [Af, Ac]; simp), show Ae (0 : Int) 1 = 1 by decide,
  Dw, Gp, l2, if_pos (by decide), g1, Aa, Ah (by unfold Ac; omega) (by unfold Ac; omega), if_neg (by rw [Af, Ac, Ac]; simp; omega), show Ae (1 : Int) 1 = 2 by decide,
  Dw, Gp, l2, if_neg (by decide), Ok, Oc, if_neg (by rw [Af, Ac, Ac]; simp; omega), Od, Oh]
 have z : Al (0 : Int) 0 = 0 := by decide
 have n0 : (0 : Int) + Ac l + Ac m = ((l.length + m.length : Nat) : Int) := by simp [Ac]
 rw [z, n0, Bh (by omega) (by omega), Int.sub_zero]
 by_cases hp : 0 < l.length + m.length
 ·rw [if_pos (by rw [As]; simp; omega), show vwI (0 : Int) 0 0 = some () from rfl, Aa, Bap (by omega) (by omega), Aa, Ca (by simp; omega), Aa]
  rw [show vwI (Ac ([] ++ List.replicate ((l.length + m.length : Nat) : Int).toNat (0 : Int))) 0 0 = some () by rw [vwI, Cp]; simp [Ac]; omega, Aa]
  simp only [Anz, Int.sub_self, Int.toNat_zero, List.take_zero]
  exact h3
 ·rw [if_neg (by rw [As]; simp; omega)]; exact h3
theorem Bsh {r n : Nat} (h1 : 1 ≤ r) (h : r ≤ 1048576) (n1 : 1 ≤ n) (n2 : n ≤ 4000) (hk : (n - 1) / longN r + 1 ≤ 1000) : Al4 (r : Int) (n : Int) = some (framesL (longN r) n, 0) := by
 have hp := Ajy r
 have hl := Azo h
 have hd := Nat.div_mul_le_self (n - 1) (longN r)
 rw [Al4, Baw h1 h n1 n2, if_neg (by omega), Aa]
 simp only
 rw [if_neg (by rw [Am]; simp), Bdd h1 h, Aa]
 simp only
 rw [framesL]
 generalize (n - 1) / longN r = k at *
 have e1 : Al ((k + 1 : Nat) : Int) 1 = (k : Int) := by rw [Bh (by omega) (by omega)]; omega
 have e2 : (k : Int) * (longN r : Int) = ((k * longN r : Nat) : Int) := by simp
 rw [e1, Bov _ _ (by omega), Aa, Ik (by rw [e2]; omega) (by rw [e2]; omega), e2, Bh (by omega) (by omega), Akv, Bpw _ _ (by simp; omega), Aa, Aa, show (n : Int) - ((k * longN r : Nat) : Int) = ((n - k * longN r : Nat) : Int) by omega]
end Go.Pl
set_option linter.unusedVariables false
set_option linter.unusedSimpArgs false
namespace Go.Pl
open Go Go.Lv
def shapeB (f c w r n : Nat) : Bool := decide ((f = 1 ∨ f = 2) ∧ (1 ≤ c ∧ c ≤ 6) ∧ (w = 8 ∨ w = 16 ∨ w = 24) ∧ (1 ≤ r ∧ r ≤ 1048576) ∧ 1 ≤ n)
def fitB (c r n : Nat) : Bool := decide (n ≤ 4000 / c ∧ (n - 1) / longN r + 1 ≤ 1000)
theorem Art (f c w r n : Nat) : Ql (f : Int) (c : Int) (w : Int) (r : Int) (n : Int) = some (shapeB f c w r n) := by
 have e2 : Ml (f : Int) (c : Int) (w : Int) (r : Int) (n : Int) = some (decide ((f = 1 ∨ f = 2) ∧ (1 ≤ c ∧ c ≤ 6) ∧ (1 ≤ r ∧ r ≤ 1048576) ∧ 1 ≤ n)) := by
  rw [Ml, Agj]
  congr 1
  rw [Bool.eq_iff_iff]
  simp only [Ba, As, An3, Bool.and_eq_true, Bool.or_eq_true, beq_iff_eq, decide_eq_true_eq]
  omega
 have g : ∀ k : Nat, geq (w : Int) (k : Int) = decide (w = k) := fun k => by rw [Ba, Bool.eq_iff_iff]; simp; omega
 have g8 : geq (w : Int) (8 : Int) = decide (w = 8) := g 8
 have g16 : geq (w : Int) (16 : Int) = decide (w = 16) := g 16
 have g24 : geq (w : Int) (24 : Int) = decide (w = 24) := g 24
 rw [Ql, Zz, e2, g8, g16, g24, shapeB]
 by_cases h8 : w = 8
 ·subst h8; simp
 ·by_cases h16 : w = 16
  ·subst h16; simp
  ·by_cases h24 : w = 24
   ·subst h24; simp
   ·simp [h8, h16, h24]
theorem Auf (f c w r n : Nat) : Fs (f : Int) (c : Int) (w : Int) (r : Int) (n : Int) = some (shapeB f c w r n) := by
 rw [Fs, shapeB]
 simp only [Ba, Dt, An3, Bool.and_eq_true, Bool.or_eq_true, beq_iff_eq, decide_eq_true_eq, Bool.false_and]
 split
 ·rename_i h
  congr 1
  rw [Bool.eq_iff_iff]
  simp only [Bool.and_eq_true, Bool.or_eq_true, beq_iff_eq, decide_eq_true_eq]
  omega
 ·rename_i h
  congr 1
  symm
  rw [decide_eq_false_iff_not]
  omega
theorem Bwr {c : Nat} (h : 1 ≤ c) : Cn (4000 : Int) (c : Int) = ((4000 / c : Nat) : Int) := by
 have : 4000 / c ≤ 4000 := Nat.div_le_self _ _
 rw [Aij, Int.tdiv_eq_ediv_of_nonneg (by omega), show (4000 : Int) = ((4000 : Nat) : Int) from rfl, ← Int.natCast_ediv]
 generalize 4000 / c = k at *
 exact Ce (by omega) (by omega)
theorem Awv {f c w r n : Nat} (h : shapeB f c w r n = true) : Ahq (f : Int) (c : Int) (w : Int) (r : Int) (n : Int) = some (fitB c r n) := by
 simp only [shapeB, decide_eq_true_eq] at h
 have hd : 4000 / c ≤ 4000 := Nat.div_le_self _ _
 rw [Ahq, Cp (by rw [Am]; simp; omega), Aa, Bwr (by omega), fitB]
 generalize 4000 / c = m at *
 by_cases h1 : n ≤ m
 ·rw [if_neg (by rw [As]; simp; omega), Baw (by omega) (by omega) (by omega) (by omega), Aa]
  generalize (n - 1) / longN r + 1 = k
  by_cases h2 : 1000 < k
  ·rw [if_pos h2]
   simp [Ba, An3]
   omega
  ·rw [if_neg h2]
   simp [Ba, An3, h1]
   omega
 ·rw [if_pos (by rw [As]; simp; omega)]
  simp [h1]
theorem Azt {f c w r n : Nat} (h : shapeB f c w r n = true) : Ih (f : Int) (c : Int) (w : Int) (r : Int) (n : Int) = some (!fitB c r n) := by
 simp only [shapeB, decide_eq_true_eq] at h
 have hd : 4000 / c ≤ 4000 := Nat.div_le_self _ _
 rw [Ih, Cp (by rw [Am]; simp; omega), Aa, Bwr (by omega), fitB]
 generalize 4000 / c = m at *
 by_cases h1 : n ≤ m
 ·rw [if_neg (by rw [As]; simp; omega), Ay9 (by omega) (by omega) (by omega), Aa, Ac, Axp]
  generalize (n - 1) / longN r + 1 = k
  congr 1
  rw [As, Bool.eq_iff_iff]
  simp only [decide_eq_true_eq, Bool.not_eq_true', decide_eq_false_iff_not]
  omega
 ·rw [if_pos (by rw [As]; simp; omega)]
  simp [h1]
def Ax9 : List UInt8 := [84, 84, 65, 49]
def f0 (b : List UInt8) : Nat := Dy (part b 4 2)
def f1 (b : List UInt8) : Nat := Dy (part b 6 2)
def f2 (b : List UInt8) : Nat := Dy (part b 8 2)
def f3 (b : List UInt8) : Nat := Dy (part b 10 4)
def f4 (b : List UInt8) : Nat := Dy (part b 14 4)
abbrev H6 := Int × Int × Int × Int × Int × Int
def Gz (b : List UInt8) : H6 :=
 if b.take (min 4 b.length) ≠ Ax9.take (min 4 b.length) then (0, 0, 0, 0, 0, 12) else if b.length < 22 then (0, 0, 0, 0, 0, 24) else
 if (Io (b.take 18)).toNat ≠ Dy (part b 18 4) then (0, 0, 0, 0, 0, 22) else
 if shapeB (f0 b) (f1 b) (f2 b) (f3 b) (f4 b) = false then (0, 0, 0, 0, 0, 12) else
 if fitB (f1 b) (f3 b) (f4 b) = false then (0, 0, 0, 0, 0, 4) else ((f0 b : Int), (f1 b : Int), (f2 b : Int), (f3 b : Int), (f4 b : Int), 0)
section
variable {b : List UInt8}
theorem rs1 (h : b.take (min 4 b.length) ≠ Ax9.take (min 4 b.length)) : Gz b = (0, 0, 0, 0, 0, 12) := by rw [Gz, if_pos h]
variable (h : b.take (min 4 b.length) = Ax9.take (min 4 b.length))
include h
theorem rs2 (h2 : b.length < 22) : Gz b = (0, 0, 0, 0, 0, 24) := by rw [Gz, if_neg (fun e => e h), if_pos h2]
variable (h2 : ¬ b.length < 22)
include h2
theorem rs3 (h3 : (Io (b.take 18)).toNat ≠ Dy (part b 18 4)) : Gz b = (0, 0, 0, 0, 0, 22) := by rw [Gz, if_neg (fun e => e h), if_neg h2, if_pos h3]
variable (h3 : (Io (b.take 18)).toNat = Dy (part b 18 4))
include h3
theorem rs4 (h4 : shapeB (f0 b) (f1 b) (f2 b) (f3 b) (f4 b) = false) : Gz b = (0, 0, 0, 0, 0, 12) := by rw [Gz, if_neg (fun e => e h), if_neg h2, if_neg (fun e => e h3), if_pos h4]
variable (h4 : shapeB (f0 b) (f1 b) (f2 b) (f3 b) (f4 b) = true)
include h4
theorem rs5 (h5 : fitB (f1 b) (f3 b) (f4 b) = false) : Gz b = (0, 0, 0, 0, 0, 4) := by rw [Gz, if_neg (fun e => e h), if_neg h2, if_neg (fun e => e h3), if_neg (by rw [h4]; simp), if_pos h5]
theorem rs6 (h5 : fitB (f1 b) (f3 b) (f4 b) = true) : Gz b = ((f0 b : Int), (f1 b : Int), (f2 b : Int), (f3 b : Int), (f4 b : Int), 0) := by rw [Gz, if_neg (fun e => e h), if_neg h2, if_neg (fun e => e h3), if_neg (by rw [h4]; simp), if_neg (by rw [h5]; simp)]
end
theorem Brh (b : List UInt8) (h2 : ¬ b.length < 22) : Bn (Ad (Io (b.take 18)) : UInt64) (leU (part b 18 4)) = decide ((Io (b.take 18)).toNat ≠ Dy (part b 18 4)) := by
 rw [Ajn, Iy, Bool.eq_iff_iff]
 simp only [bne_iff_ne, ne_eq, decide_eq_true_eq]
 rw [← UInt64.toNat_inj, Als (by have := (Io (b.take 18)).toNat_lt; omega), Al2 (by rw [Cy (by omega)]; omega)]
theorem Asa (b : List UInt8) (a w : Nat) (i q : Nat) (l : List Int) (hi : i < 5) (hl : l.length = 5) (hw : Ak ([2, 2, 2, 4, 4] : List Int) (i : Int) = some (w : Int)) (h1 : 1 ≤ w) (h4 : w ≤ 4) (ha : a + w ≤ b.length) (hb : b.length < 4611686018427387904) :
  Mz b (q + 1) (a : Int) (i : Int) l = Mz b q ((a + w : Nat) : Int) ((i + 1 : Nat) : Int) (l.set i (Dy (part b a w) : Int)) := by
 rw [Mz, Adh, if_pos (by rw [Af]; simp; omega), hw, Aa, Beq b a w h1 (by omega) ha hb, Aa]
 simp only
 rw [Cq (by omega), Aa, Aap _ (by omega), Aa, Agx (by rw [Cy ha]; omega), Ah (by omega) (by omega), Ah (by omega) (by omega)]
 rfl
theorem Bto (b : List UInt8) (h22 : ¬ b.length < 22) (hb : b.length < 4611686018427387904) : Ad5 b 4 0 (List.replicate 5 0) = Adu [(f0 b : Int), (f1 b : Int), (f2 b : Int), (f3 b : Int), (f4 b : Int)] := by
 have hF : Au = (Au - 6) + 1 + 1 + 1 + 1 + 1 + 1 := by have := Aq; omega
 rw [Ad5, hF, show (4 : Int) = ((4 : Nat) : Int) from rfl, show (0 : Int) = ((0 : Nat) : Int) from rfl]
 rw [Asa b 4 2 0 _ _ (by omega) (by simp) rfl (by omega) (by omega) (by omega) hb, Asa b 6 2 1 _ _ (by omega) (by simp) rfl (by omega) (by omega) (by omega) hb, Asa b 8 2 2 _ _ (by omega) (by simp) rfl (by omega) (by omega) (by omega) hb,
  Asa b 10 4 3 _ _ (by omega) (by simp) rfl (by omega) (by omega) (by omega) hb, Asa b 14 4 4 _ _ (by omega) (by simp) rfl (by omega) (by omega) (by omega) hb, Mz, Adh, if_neg (by rw [Af]; simp)]
 rfl
theorem Car (b : List UInt8) : Ia [84, 84, 65, 49] (b.take (min 4 b.length)) = some (decide (b.take (min 4 b.length) = Ax9.take (min 4 b.length))) := by
 have hl : (b.take (min 4 b.length)).length = min 4 b.length := by rw [List.length_take]; omega
 rw [Ia, Fk, if_pos (by rw [Dt, Ac, Ac, hl]; simp; omega), Ac, hl, Dh (by omega) (by simp; omega), Aa, Aa, Int.toNat_natCast]
 congr 1
 rw [Bool.eq_iff_iff]
 rw [decide_eq_true_eq, beq_iff_eq]
 exact eq_comm
theorem Bzt (b : List UInt8) : Hq (4 : Int) (Ac b) = ((min 4 b.length : Nat) : Int) := by rw [Amq, Ac]; omega
theorem Axg (b : List UInt8) (hb : b.length < 4611686018427387904) : Pm b = some (Gz b) := by
 rw [Pm, Ala, Bzt, Dh (by omega) (by omega), Aa, Int.toNat_natCast, Car, Aa]
 by_cases h : b.take (min 4 b.length) = Ax9.take (min 4 b.length)
 ·rw [if_neg (by simpa using h)]
  by_cases h2 : b.length < 22
  ·rw [if_pos (by rw [Af, Ac]; simp; omega), rs2 h h2]
  ·have a1 : Ans b 18 4 = some (leU (part b 18 4), 0) := Beq b 18 4 (by omega) (by omega) (by omega) hb
   rw [if_neg (by rw [Af, Ac]; simp; omega), a1, Aa]
   simp only
   rw [Dh (by omega) (by omega), Aa, show (18 : Int).toNat = 18 from rfl, Blp _ (by simp; omega), Aa]
   simp only
   rw [Brh b h2]
   by_cases h3 : (Io (b.take 18)).toNat = Dy (part b 18 4)
   ·rw [if_neg (by simpa using h3), Bto b h2 hb, Adu, Ar5]
    rw [show Ak [(f0 b : Int), (f1 b : Int), (f2 b : Int), (f3 b : Int), (f4 b : Int)] 0 = some (f0 b : Int) from rfl, show Ak [(f0 b : Int), (f1 b : Int), (f2 b : Int), (f3 b : Int), (f4 b : Int)] 1 = some (f1 b : Int) from rfl, show Ak [(f0 b : Int), (f1 b : Int), (f2 b : Int), (f3 b : Int), (f4 b : Int)] 2 = some (f2 b : Int) from rfl,
     show Ak [(f0 b : Int), (f1 b : Int), (f2 b : Int), (f3 b : Int), (f4 b : Int)] 3 = some (f3 b : Int) from rfl, show Ak [(f0 b : Int), (f1 b : Int), (f2 b : Int), (f3 b : Int), (f4 b : Int)] 4 = some (f4 b : Int) from rfl]
    simp only [Aa, Art]
    cases h4 : shapeB (f0 b) (f1 b) (f2 b) (f3 b) (f4 b) with
    | false => rw [rs4 h h2 h3 h4]; rfl
    | true =>
     rw [Awv h4, if_neg (by simp), Aa]
     cases h5 : fitB (f1 b) (f3 b) (f4 b) with
     | false => rw [rs5 h h2 h3 h4 h5]; rfl
     | true => rw [rs6 h h2 h3 h4 h5]; rfl
   ·rw [if_pos (by simpa using h3), rs3 h h2 h3]
 ·rw [if_pos (by simpa using h), rs1 h]
theorem Bip (b : List UInt8) (hb : b.length < 4611686018427387904) : Pr b = some (Gz b) := by
 rw [Pr, Yl, Bzt, Dh (by omega) (by omega), Aa, Int.toNat_natCast, Dh (by omega) (by simp; omega), Aa, Int.toNat_natCast]
 by_cases h : b.take (min 4 b.length) = Ax9.take (min 4 b.length)
 ·rw [if_neg (by rw [h]; simp [Ax9]), Yb, Za]
  by_cases h2 : b.length < 22
  ·rw [if_pos (by rw [Af, Ac]; simp; omega), rs2 h h2]
  ·have a1 : Bc b 18 22 = some (part b 18 4) := Qa 18 4 (by omega)
   have c1 : Bc b 4 6 = some (part b 4 2) := Qa 4 2 (by omega)
   have c2 : Bc b 6 8 = some (part b 6 2) := Qa 6 2 (by omega)
   have c3 : Bc b 8 10 = some (part b 8 2) := Qa 8 2 (by omega)
   have c4 : Bc b 10 14 = some (part b 10 4) := Qa 10 4 (by omega)
   have c5 : Bc b 14 18 = some (part b 14 4) := Qa 14 4 (by omega)
   have hs : Bn (leU (part b 18 4)) (Ad (Io (b.take 18)) : UInt64) = decide ((Io (b.take 18)).toNat ≠ Dy (part b 18 4)) := by
    rw [← Brh b h2, Ajn, Ajn, Bool.eq_iff_iff]; simp only [bne_iff_ne, ne_eq]; exact not_congr eq_comm
   have lp : ∀ a w, a + w ≤ b.length → Ao (part b a w) = some (leU (part b a w)) := fun a w h => Bh7 _ (by rw [Cy h]; omega)
   rw [if_neg (by rw [Af, Ac]; simp; omega), a1, Aa, Dh (by omega) (by omega), Aa, show (18 : Int).toNat = 18 from rfl, lp _ _ (by omega), Aa, Bs1 _ (by simp; omega), Aa, hs]
   by_cases h3 : (Io (b.take 18)).toNat = Dy (part b 18 4)
   ·rw [if_neg (by simpa using h3), Zl, Pk, c1, Aa, c2, Aa, c3, Aa, c4, Aa, c5, Aa, lp _ _ (by omega), Aa, lp _ _ (by omega), Aa, lp _ _ (by omega), Aa, lp _ _ (by omega), Aa, lp _ _ (by omega), Aa,
     Yt, Ahg, Agx (by rw [Cy (by omega)]; omega), Agx (by rw [Cy (by omega)]; omega), Agx (by rw [Cy (by omega)]; omega), Agx (by rw [Cy (by omega)]; omega), Agx (by rw [Cy (by omega)]; omega)]
    rw [show Dy (part b 4 2) = f0 b from rfl, show Dy (part b 6 2) = f1 b from rfl, show Dy (part b 8 2) = f2 b from rfl, show Dy (part b 10 4) = f3 b from rfl, show Dy (part b 14 4) = f4 b from rfl, Auf, Aa]
    cases h4 : shapeB (f0 b) (f1 b) (f2 b) (f3 b) (f4 b) with
    | false => rw [rs4 h h2 h3 h4]; rfl
    | true =>
     rw [Azt h4, if_neg (by simp), Aa]
     cases h5 : fitB (f1 b) (f3 b) (f4 b) with
     | false => rw [rs5 h h2 h3 h4 h5]; rfl
     | true => rw [rs6 h h2 h3 h4 h5]; rfl
   ·rw [if_pos (by simpa using h3), rs3 h h2 h3]
 ·rw [if_pos (by simpa [Ax9] using h), rs1 h]
theorem Bjk {b : List UInt8} (h : (Gz b).2.2.2.2.2 = 0) : Gz b = ((f0 b : Int), (f1 b : Int), (f2 b : Int), (f3 b : Int), (f4 b : Int), 0) ∧ 22 ≤ b.length ∧ shapeB (f0 b) (f1 b) (f2 b) (f3 b) (f4 b) = true ∧ fitB (f1 b) (f3 b) (f4 b) = true := by
 unfold Gz at h ⊢
 split at h; · simp at h
 rename_i c1; rw [if_neg c1]
 split at h; · simp at h
 rename_i c2; rw [if_neg c2]
 split at h; · simp at h
 rename_i c3; rw [if_neg c3]
 split at h; · simp at h
 rename_i c4; rw [if_neg c4]
 split at h; · simp at h
 rename_i c5; rw [if_neg c5]
 exact ⟨rfl, by omega, by simpa using c4, by simpa using c5⟩
theorem Bj5 {f c w r n : Nat} (h : shapeB f c w r n = true) (h2 : fitB c r n = true) : Cx (f : Int) (c : Int) (w : Int) (r : Int) (n : Int) = some (framesL (longN r) n, 0) := by
 have hc : Aad (f : Int) (c : Int) (w : Int) (r : Int) (n : Int) = some 0 := by
  rw [Aad, Art, Aa, h, if_neg (by simp), Awv h, Aa, h2]; rfl
 have hd : 4000 / c ≤ 4000 := Nat.div_le_self _ _
 simp only [shapeB, decide_eq_true_eq] at h
 simp only [fitB, decide_eq_true_eq] at h2
 rw [Cx, hc, Aa, if_neg (by rw [Am]; simp), Bsh (by omega) (by omega) (by omega) (by omega) h2.2]
 rfl
end Go.Pl
