/- A part of the proof of a statement of this seat (see the text that ends in Proof): LwBase, LwBitB, LwLe, LwBits, LwRef02, LwCut, LwUn, LwRice, LwDual, LwVal, LwI32, LwFil, LwUnm, LwSam, LwCrc, LwFrm, LwC64, LwWby, LwId, LwApe, LwStrip, LwLen, LwHead. No conditions of its own. -/
import Derived.Test.YtnoflhhhiiaclaaGreatDoorPsBA
import Derived.Test.YtnoflhhhiiaclaaGreatDoorPsPA
set_option linter.unusedVariables false
set_option linter.unusedSimpArgs false
namespace Go.Lv
theorem Ah {a b : Int} (h : -9223372036854775808 ≤ a + b) (h' : a + b ≤ 9223372036854775807) : Af a b = a + b := by rw [Buv, Ca h h']
theorem Bt {a b : Int} (h : -9223372036854775808 ≤ a - b) (h' : a - b ≤ 9223372036854775807) : Ao a b = a - b := by rw [But, Ca h h']
theorem Ip {a b : Int} (h : -9223372036854775808 ≤ a * b) (h' : a * b ≤ 9223372036854775807) : Bp a b = a * b := by rw [Bo1, Ca h h']
theorem Aic (c : UInt8) : (Ad c : Int) = (c.toNat : Int) := by rw [Bop, Ca] <;> have := c.toNat_lt <;> omega
theorem Bjj (c : UInt32) : (Ad c : Int) = (c.toNat : Int) := by rw [Bmr, Ca] <;> have := c.toNat_lt <;> omega
theorem Asg (c : UInt8) : (Ad c : UInt64) = UInt64.ofNat c.toNat := by simp only [Ad, Aa0, Hf]
theorem Ik (c : UInt32) : (Ad c : UInt64) = UInt64.ofNat c.toNat := by simp only [Ad, Yv, Hf]
theorem Anz (c : UInt64) : (Ad c : UInt8) = UInt8.ofNat c.toNat := by simp only [Ad, Is, Mf]
theorem Ar6 (c : UInt32) : (Ad c : UInt8) = UInt8.ofNat c.toNat := by simp only [Ad, Yv, Mf]
theorem Abb (n : Nat) : (Ad (n : Int) : UInt64) = UInt64.ofNat n := by simp only [Ad]; exact Hf n
theorem Bbp (n : Nat) : (Ad (n : Int) : UInt32) = UInt32.ofNat n := by simp only [Ad]; exact Dw n
theorem Bp5 (n : Nat) : (Ad (n : Int) : UInt8) = UInt8.ofNat n := by simp only [Ad]; exact Mf n
theorem Ava {c : UInt64} (h : c.toNat < 9223372036854775808) : (Ad c : Int) = (c.toNat : Int) := by rw [Bm6, Ca] <;> omega
theorem Bjz : LIM = 17179869184 := by decide
theorem Aq : 36893488147419103231 < Ay := by decide
theorem Cl {α : Type} {l : List α} {n : Nat} (h : n < l.length) : Al l (n : Int) = some l[n] := by simp [Al, h]
theorem Za {α : Type} {l : List α} {n : Nat} (x : α) (h : n < l.length) : Sa l (n : Int) x = some (l.set n x) := by simp [Sa, h]
theorem Ag2 {α : Type} {l : List α} {a b : Int} (h : 0 ≤ a) (h1 : a ≤ b) (h2 : b ≤ l.length) : Bb l a b = some ((l.take b.toNat).drop a.toNat) := by rw [Bb, if_pos ⟨h, h1, h2⟩]
theorem Cp {α : Type} {l : List α} {a : Int} (h : 0 ≤ a) (h1 : a ≤ l.length) : Bb l a (Ac l) = some (l.drop a.toNat) := by
 unfold Ac; rw [Ag2 h h1 (Int.le_refl _), Int.toNat_natCast, List.take_length]
theorem Dc {α : Type} {l : List α} {b : Int} (h : 0 ≤ b) (h1 : b ≤ l.length) : Bb l 0 b = some (l.take b.toNat) := by rw [Ag2 (Int.le_refl _) h h1]; rfl
theorem Cc {α : Type} {l m : List α} (h : l.length + m.length ≤ 17179869184) : Db l m = some (l ++ m) := by rw [Db, Bjz, if_pos h]
theorem Ays {α : Type} {n : Int} {z : α} (h : 0 ≤ n) (h' : n ≤ 17179869184) : mkI n z = some (List.replicate n.toNat z) := by rw [mkI, Bjz, if_pos ⟨h, h'⟩]
theorem Cm {b : Bool} (h : b = true) : Wq b = some () := by rw [h]; rfl
theorem Aa {α β : Type} (a : α) (f : α → Option β) : Option.bind (some a) f = f a := rfl
theorem drop_cons {α : Type} {l : List α} {n : Nat} (h : n < l.length) : l.drop n = l[n] :: l.drop (n + 1) := List.drop_eq_getElem_cons h
theorem Al4 {α : Type} {l : List α} {n : Nat} (h : n < l.length) : l.take (n + 1) = l.take n ++ [l[n]] := by rw [List.take_add_one, List.getElem?_eq_getElem h]; rfl
def Du : List UInt8 → Nat
 | [] => 0
 | x :: r => x.toNat + 256 * Du r
theorem Bde : ∀ l : List UInt8, Du l < 256 ^ l.length
 | [] => by simp [Du]
 | x :: r => by
  have h := Bde r
  have := x.toNat_lt
  simp only [Du, List.length_cons, Nat.pow_succ]
  omega
theorem Axd : ∀ l m : List UInt8, Du (l ++ m) = Du l + 256 ^ l.length * Du m
 | [], m => by simp [Du]
 | x :: r, m => by
  simp only [Du, List.cons_append, Axd r m, List.length_cons, Nat.pow_succ, Nat.mul_add]
  rw [Nat.mul_comm (256 ^ r.length) 256, Nat.mul_assoc]; omega
def leU (l : List UInt8) : UInt64 := UInt64.ofNat (Du l)
theorem Br5 {l : List UInt8} (h : l.length ≤ 8) : Du l < 18446744073709551616 := by
 have h1 := Bde l
 have h2 : 256 ^ l.length ≤ 256 ^ 8 := Nat.pow_le_pow_right (by omega) h
 exact Nat.lt_of_lt_of_le h1 (by simpa using h2)
theorem Blf {l : List UInt8} (h : l.length ≤ 4) : Du l < 4294967296 := by
 have h1 := Bde l
 have h2 : 256 ^ l.length ≤ 256 ^ 4 := Nat.pow_le_pow_right (by omega) h
 exact Nat.lt_of_lt_of_le h1 (by simpa using h2)
theorem Aj4 {l : List UInt8} (h : l.length ≤ 8) : (leU l).toNat = Du l := by
 rw [leU, UInt64.toNat_ofNat', Nat.mod_eq_of_lt (Br5 h)]
theorem Afj {l : List UInt8} (h : l.length ≤ 4) : (Ad (leU l) : Int) = (Du l : Int) := by
 have := Blf h
 rw [Ava] <;> rw [Aj4 (by omega)]; omega
def leB (n : Nat) : Nat → List UInt8
 | 0 => []
 | w + 1 => UInt8.ofNat n :: leB (n / 256) w
theorem Qm : ∀ (w n : Nat), (leB n w).length = w
 | 0, _ => rfl
 | w + 1, n => by simp [leB, Qm w]
theorem Bhj : ∀ (w n : Nat), leB n (w + 1) = leB n w ++ [UInt8.ofNat (n / 256 ^ w)]
 | 0, n => by simp [leB]
 | w + 1, n => by
  rw [leB, Bhj w (n / 256), leB]
  simp [Nat.div_div_eq_div_mul, Nat.pow_succ, Nat.mul_comm]
end Go.Lv
set_option linter.unusedVariables false
set_option linter.unusedSimpArgs false
namespace Go.Lv
def Jz (p : List UInt8) (i : Nat) : Nat := (p.getD (i / 8) 0).toNat / 2 ^ (i % 8) % 2
theorem Zy (p : List UInt8) (i : Nat) : Jz p i < 2 := Nat.mod_lt _ (by omega)
def Bz (p : List UInt8) : Nat → Nat → Nat
 | _, 0 => 0
 | a, n + 1 => Jz p a + 2 * Bz p (a + 1) n
theorem Tp (p : List UInt8) : ∀ (n a : Nat), Bz p a n < 2 ^ n
 | 0, _ => by simp [Bz]
 | n + 1, a => by
  have := Tp p n (a + 1)
  have := Zy p a
  rw [Bz, Nat.pow_succ]; omega
theorem Aip (p : List UInt8) : ∀ (m n a : Nat), Bz p a (m + n) = Bz p a m + 2 ^ m * Bz p (a + m) n
 | 0, n, a => by simp [Bz]
 | m + 1, n, a => by
  rw [show m + 1 + n = (m + n) + 1 by omega, Bz, Bz, Aip p m n (a + 1), show a + 1 + m = a + (m + 1) by omega, Nat.pow_succ, Nat.mul_add, Nat.mul_comm (2 ^ m) 2, Nat.mul_assoc]; omega
theorem Bgo (p : List UInt8) (a : Nat) : Bz p a 1 = Jz p a := by simp [Bz]
theorem Bb5 (p : List UInt8) (a n : Nat) : Bz p a (n + 1) = Bz p a n + 2 ^ n * Jz p (a + n) := by rw [Aip p n 1 a, Bgo]
theorem Au1 (p : List UInt8) (a : Nat) : ∀ t : Nat, a % 8 + t ≤ 8 → Bz p a t = (p.getD (a / 8) 0).toNat / 2 ^ (a % 8) % 2 ^ t
 | 0, _ => by simp [Bz, Nat.mod_one]
 | t + 1, h => by
  have h1 : (a + t) / 8 = a / 8 := by omega
  have h2 : (a + t) % 8 = a % 8 + t := by omega
  rw [Bb5, Au1 p a t (by omega), Jz, h1, h2, Nat.mod_pow_succ, Nat.pow_add, Nat.div_div_eq_div_mul]
theorem Bcj {p : List UInt8} : ∀ (n a : Nat), (∀ k, k < n → Jz p (a + k) = 0) → Bz p a n = 0
 | 0, _, _ => rfl
 | n + 1, a, h => by
  have h0 := h 0 (by omega)
  rw [Bz, Bcj n (a + 1) fun k hk => by have := h (k + 1) (by omega); rwa [show a + 1 + k = a + (k + 1) by omega]]
  rw [Nat.add_zero] at h0; omega
def okB (p : List UInt8) (n : Nat) : Prop := n ≤ 330000 ∧ p.length = (n + 7) / 8 ∧ ∀ k, n ≤ k → k < 8 * p.length → Jz p k = 0
def Ae1 (p : List UInt8) (a n : Nat) : List UInt8 := (List.range ((n + 7) / 8)).map fun j => UInt8.ofNat (Bz p (a + 8 * j) (min 8 (n - 8 * j)))
theorem Ph (p : List UInt8) (a n : Nat) : (Ae1 p a n).length = (n + 7) / 8 := by simp [Ae1]
theorem Bfj (p : List UInt8) : ∀ (n a k : Nat), k < n → Bz p a n / 2 ^ k % 2 = Jz p (a + k)
 | n + 1, a, 0, _ => by have := Zy p a; rw [Bz]; simp; omega
 | n + 1, a, k + 1, h => by
  have hb := Zy p a
  have e : (Jz p a + 2 * Bz p (a + 1) n) / 2 = Bz p (a + 1) n := by omega
  rw [Bz, Nat.pow_succ, Nat.mul_comm (2 ^ k) 2, ← Nat.div_div_eq_div_mul, e, Bfj p n (a + 1) k (by omega), show a + 1 + k = a + (k + 1) by omega]
theorem Blp (p : List UInt8) (n a k : Nat) (h : n ≤ k) : Bz p a n / 2 ^ k % 2 = 0 := by
 have := Tp p n a
 rw [Nat.div_eq_of_lt (Nat.lt_of_lt_of_le this (Nat.pow_le_pow_right (by omega) h))]
theorem Bn7 (p : List UInt8) (a n k : Nat) : Jz (Ae1 p a n) k = if k < n then Jz p (a + k) else 0 := by
 rw [Jz]
 by_cases hj : k / 8 < (n + 7) / 8
 ·have e : (Ae1 p a n).getD (k / 8) 0 = UInt8.ofNat (Bz p (a + 8 * (k / 8)) (min 8 (n - 8 * (k / 8)))) := by
   rw [List.getD_eq_getElem?_getD, List.getElem?_eq_getElem (by rw [Ph]; exact hj)]; simp [Ae1]
  have hlt : Bz p (a + 8 * (k / 8)) (min 8 (n - 8 * (k / 8))) < 256 := by
   have := Tp p (min 8 (n - 8 * (k / 8))) (a + 8 * (k / 8))
   have h2 : 2 ^ (min 8 (n - 8 * (k / 8))) ≤ 2 ^ 8 := Nat.pow_le_pow_right (by omega) (by omega)
   omega
  have hu : (UInt8.ofNat (Bz p (a + 8 * (k / 8)) (min 8 (n - 8 * (k / 8))))).toNat = Bz p (a + 8 * (k / 8)) (min 8 (n - 8 * (k / 8))) := by
   rw [UInt8.toNat_ofNat']; exact Nat.mod_eq_of_lt hlt
  rw [e, hu]
  by_cases hk : k < n
  ·rw [if_pos hk, Bfj p _ _ _ (by omega), show a + 8 * (k / 8) + k % 8 = a + k by omega]
  ·rw [if_neg hk, Blp p _ _ _ (by omega)]
 ·have e : (Ae1 p a n).getD (k / 8) 0 = 0 := by
   rw [List.getD_eq_getElem?_getD, List.getElem?_eq_none (by rw [Ph]; omega)]; rfl
  rw [e, if_neg (by omega)]; simp
theorem Bk8 (p : List UInt8) (a n : Nat) (h : n ≤ 330000) : okB (Ae1 p a n) n := ⟨h, Ph p a n, fun k hk _ => by rw [Bn7, if_neg (by omega)]⟩
end Go.Lv
set_option linter.unusedVariables false
set_option linter.unusedSimpArgs false
namespace Go.Pl
open Go Go.Lv
theorem Bq2 (b : List UInt8) (hb : b.length < 4611686018427387904) : ∀ (j q : Nat), j ≤ b.length → j < q → Je b q (leU (b.drop j)) ((j : Int) - 1) = some (leU b)
 | 0, q + 1, _, _ => by
  rw [Je, Th, if_neg (by rw [Dq]; simp)]
  simp [Aas, Aje]
 | j + 1, q + 1, hj, hq => by
  rw [Je, Th, if_pos (by rw [Dq]; simp), show ((j + 1 : Nat) : Int) - 1 = (j : Int) by omega, Cl (by omega), Aa, Bt (by omega) (by omega)]
  have h : Af (Bp (256 : UInt64) (leU (b.drop (j + 1)))) (Ad b[j] : UInt64) = leU (b.drop j) := by
   rw [Agd, Afr, Asg, drop_cons (n := j) (by omega), leU, leU, Du, UInt64.ofNat_add, UInt64.ofNat_mul]
   exact UInt64.add_comm _ _
  rw [h]
  exact Bq2 b hb j q (by omega) (by omega)
theorem Bg9 (b : List UInt8) (hb : b.length < 4611686018427387904) : Ak b = some (leU b) := by
 have h := Bq2 b hb b.length Ay (Nat.le_refl _) (by have := Aq; omega)
 rw [Ak, Aao, Aa3]
 have e : Ao (Ac b) 1 = (b.length : Int) - 1 := Bt (by unfold Ac; omega) (by unfold Ac; omega)
 rw [e, ← h, List.drop_length]; rfl
theorem Boq {n c : UInt64} {i : Nat} (hn : n.toNat < 2 ^ i) (hc : c.toNat * 2 ^ i < 18446744073709551616) : gor n (Fu c i) = UInt64.ofNat (n.toNat + c.toNat * 2 ^ i) := by
 rw [Brw]; apply UInt64.toNat_inj.1
 rw [UInt64.toNat_or, Alp, Nat.mod_eq_of_lt hc, Nat.mul_comm, Nat.or_comm, ← Nat.two_pow_add_eq_or_of_lt hn, UInt64.toNat_ofNat', Nat.mod_eq_of_lt, Nat.add_comm, Nat.mul_comm]
 have h := Nat.two_pow_add_eq_or_of_lt hn c.toNat
 have h2 : 2 ^ i * c.toNat + n.toNat < 2 ^ 64 := by
  rw [h]
  exact Nat.or_lt_two_pow (by rw [Nat.mul_comm]; simpa using hc) n.toNat_lt
 rw [Nat.add_comm]; first | exact h2 | (rw [Nat.mul_comm]; exact h2)
theorem Ba5 (b : List UInt8) (hb : b.length ≤ 8) : ∀ (j i q : Nat), i + j = b.length → j < q → Aa8 b q (leU (b.take i)) (i : Int) = some (leU b, 0)
 | 0, i, q + 1, hi, _ => by
  rw [Aa8, Akl, if_neg (by rw [Ae, Ac]; simp; omega), show i = b.length by omega, List.take_length]; rfl
 | j + 1, i, q + 1, hi, hq => by
  have hlt : i < b.length := by omega
  rw [Aa8, Akl, if_pos (by rw [Ae, Ac]; simp; omega), Cl hlt, Aa, Ip (by omega) (by omega), Cm (by rw [Dq]; simp; omega), Aa, Ah (by omega) (by omega)]
  have h : gor (leU (b.take i)) (Fu (Ad b[i] : UInt64) (GI.toZ ((8 : Int) * (i : Int))).toNat) = leU (b.take (i + 1)) := by
   have e : (GI.toZ ((8 : Int) * (i : Int))).toNat = 8 * i := by show ((8 : Int) * (i : Int)).toNat = _; omega
   have e2 : (2 : Nat) ^ (8 * i) = 256 ^ i := by rw [Nat.pow_mul]
   have h1 := Bde (b.take i)
   rw [List.length_take, Nat.min_eq_left (by omega)] at h1
   have h3 := b[i].toNat_lt
   have hle : (256 : Nat) ^ (i + 1) ≤ 256 ^ 8 := Nat.pow_le_pow_right (by omega) (by omega)
   rw [Nat.pow_succ] at hle
   have h4 : (Ad b[i] : UInt64).toNat = b[i].toNat := by rw [Asg, UInt64.toNat_ofNat']; omega
   have h5 : b[i].toNat * 256 ^ i < 18446744073709551616 := by
    have : b[i].toNat * 256 ^ i < 256 * 256 ^ i := Nat.mul_lt_mul_of_pos_right (by simpa using h3) (Nat.pow_pos (by omega))
    simp at hle; omega
   rw [e, Boq (by rw [Aj4 (by simp; omega), e2]; exact h1) (by rw [h4, e2]; exact h5), Aj4 (by simp; omega), h4, e2, Al4 hlt]
   rw [leU, Axd]
   simp only [Du, List.length_take, Nat.min_eq_left (Nat.le_of_lt hlt), Nat.mul_zero, Nat.add_zero]
   rw [Nat.mul_comm]
  rw [h]
  exact Ba5 b hb j (i + 1) q (by omega) (by omega)
theorem Bfx (b : List UInt8) (h1 : 1 ≤ b.length) (h2 : b.length ≤ 8) : Ap6 b = some (leU b, 0) := by
 have h := Ba5 b h2 b.length 0 Ay (by omega) (by have := Aq; omega)
 rw [Ap6, Apk, if_neg (by simp [Ae, As, Ac]; omega), Ao9]
 exact h
def part (b : List UInt8) (at' w : Nat) : List UInt8 := (b.take (at' + w)).drop at'
theorem Cu {b : List UInt8} {a w : Nat} (h : a + w ≤ b.length) : (part b a w).length = w := by simp [part]; omega
theorem Bbg (b : List UInt8) (a w : Nat) (h1 : 1 ≤ w) (h2 : w ≤ 8) (h3 : a + w ≤ b.length) (hb : b.length < 4611686018427387904) : Ami b (a : Int) (w : Int) = some (leU (part b a w), 0) := by
 rw [Ami, if_neg (by simp [Ae, As]; omega), if_neg (by rw [As, Bt (by unfold Ac; omega) (by unfold Ac; omega), Ac]; simp; omega), Ah (by omega) (by omega), Ag2 (by omega) (by omega) (by omega), Aa]
 rw [show ((a : Int) + (w : Int)).toNat = a + w by omega, show (a : Int).toNat = a by omega]
 rw [Bfx _ (by rw [show ((b.take (a + w)).drop a).length = _ from Cu h3]; exact h1) (by rw [show ((b.take (a + w)).drop a).length = _ from Cu h3]; exact h2), Aa]; rfl
theorem Avk (w : Nat) (hw : w ≤ 1000) : ∀ (j i q : Nat) (n : UInt64) (acc : List UInt8), i + j = w → j < q → acc.length + j ≤ 1000000 → Eh (w : Int) q n (i : Int) acc = some (acc ++ leB n.toNat j)
 | 0, i, q + 1, n, acc, hi, _, _ => by
  rw [Eh, Kb, if_neg (by rw [Ae]; simp; omega)]
  simp [Qx, Abn, leB]
 | j + 1, i, q + 1, n, acc, hi, hq, ha => by
  rw [Eh, Kb, if_pos (by rw [Ae]; simp; omega)]
  have e : (Ad (Abu n (256 : UInt64)) : UInt8) = UInt8.ofNat n.toNat := by
   rw [Anz, Bgu]; apply UInt8.toNat_inj.1
   rw [UInt8.toNat_ofNat', UInt8.toNat_ofNat', UInt64.toNat_mod]
   show n.toNat % 256 % 256 = _
   omega
  have e2 : (Cn n (256 : UInt64)).toNat = n.toNat / 256 := by rw [Atq, UInt64.toNat_div]; rfl
  rw [Cc (by simp; omega), Aa, Ah (by omega) (by omega), e]
  have h := Avk w hw j (i + 1) q (Cn n 256) (acc ++ [UInt8.ofNat n.toNat]) (by omega) (by omega) (by simp; omega)
  rw [e2] at h
  rw [show ((i : Int) + 1) = ((i + 1 : Nat) : Int) by omega, h, leB]; simp
theorem Ayd (n : UInt64) (w : Nat) (hw : w ≤ 1000) : Cr n (w : Int) = some (leB n.toNat w) := by
 rw [Cr, Qz, Rk]
 have h := Avk w hw w 0 Ay n [] (by omega) (by have := Aq; omega) (by simp; omega)
 simpa using h
theorem Aqu {α : Type} {l m : List α} {x y : α} {i : Nat} (h : l.length = i) : (l ++ x :: m).set i y = l ++ y :: m := by subst h; simp
theorem Bb4 (n : UInt64) (l4 : List UInt8) (w : Nat) (hl : l4.length = w) (hw : w ≤ 8) : ∀ (j i q : Nat), i + j = w → j < q → Abc n l4 q (i : Int) (leB n.toNat i ++ List.replicate j 0) = some (leB n.toNat w, 0)
 | 0, i, q + 1, hi, _ => by
  rw [Abc, Akh, if_neg (by rw [Ae, Ac]; simp; omega)]
  obtain rfl : i = w := by omega
  simp [Ape, Avm]
 | j + 1, i, q + 1, hi, hq => by
  have hlen : (leB n.toNat i ++ List.replicate (j + 1) 0).length = i + (j + 1) := by simp [Qm]
  rw [Abc, Akh, if_pos (by rw [Ae, Ac]; simp; omega), Ip (by omega) (by omega), Cm (by rw [Dq]; simp; omega), Aa, Cl (by rw [hlen]; omega), Aa, Za _ (by rw [hlen]; omega), Aa, Ah (by omega) (by omega)]
  have e : (Ad (Cg n (GI.toZ ((8 : Int) * (i : Int))).toNat) : UInt8) = UInt8.ofNat (n.toNat / 256 ^ i) := by
   have e : (GI.toZ ((8 : Int) * (i : Int))).toNat = 8 * i := by show ((8 : Int) * (i : Int)).toNat = _; omega
   rw [e, Anz, Af2, Nat.pow_mul]
  rw [e, List.replicate_succ, Aqu (Qm _ _)]
  have h := Bb4 n l4 w hl hw j (i + 1) q (by omega) (by omega)
  rw [Bhj] at h
  simpa using h
theorem Brm (n : UInt64) (w : Nat) (h1 : 1 ≤ w) (h2 : w ≤ 8) (h : n.toNat < 256 ^ w) : Awj n (w : Int) = some true := by
 rw [Awj]
 by_cases h8 : w = 8
 ·subst h8; rw [if_pos (by rw [Az]; rfl)]
 ·rw [if_neg (by rw [Az]; simp; omega), Ip (by omega) (by omega), Cm (by rw [Dq]; simp; omega), Aa]
  have e : (GI.toZ ((8 : Int) * (w : Int))).toNat = 8 * w := by show ((8 : Int) * (w : Int)).toNat = _; omega
  rw [e, Aws]
  have : Cg n (8 * w) = 0 := by
   apply UInt64.toNat_inj.1
   rw [Af2, Nat.pow_mul]
   exact Nat.div_eq_of_lt h
  rw [this]; rfl
theorem Bev (n : UInt64) (w : Nat) (h1 : 1 ≤ w) (h2 : w ≤ 8) (h : n.toNat < 256 ^ w) : Aqd n (w : Int) = some (leB n.toNat w, 0) := by
 rw [Aqd, Apu, if_neg (by simp [Ae, As]; omega), Brm n w h1 h2 h, Aa, if_neg (by simp), Ays (by omega) (by omega), Aa, Cm (by rw [Az]; simp), Aa, Apn]
 have h := Bb4 n (List.replicate (w : Int).toNat 0) w (by simp) h2 w 0 Ay (by omega) (by have := Aq; omega)
 simpa [leB] using h
end Go.Pl
set_option linter.unusedVariables false
set_option linter.unusedSimpArgs false
namespace Go.Pl
open Go Go.Lv
theorem Bf6 (n : Nat) (h : n < 4611686018427387904) : Jg (n : Int) (7 : Int) = ((n % 8 : Nat) : Int) := by
 have e : Jg (n : Int) (7 : Int) = wrap64 ((BitVec.ofInt 64 (n : Int) &&& BitVec.ofInt 64 7).toNat : Int) := rfl
 rw [e, BitVec.toNat_and, BitVec.toNat_ofInt, BitVec.toNat_ofInt]
 have h1 : ((n : Int) % ((2 ^ 64 : Nat) : Int)).toNat = n := by omega
 have h2 : ((7 : Int) % ((2 ^ 64 : Nat) : Int)).toNat = 2 ^ 3 - 1 := by decide
 rw [h1, h2, Nat.and_two_pow_sub_one_eq_mod, Ca (by omega) (by omega)]
theorem Bwx (n : Nat) : Bdw (n : Int) (GI.toZ (3 : UInt64)).toNat = ((n / 8 : Nat) : Int) := by
 have e : Bdw (n : Int) (GI.toZ (3 : UInt64)).toNat = (n : Int).fdiv 8 := rfl
 rw [e, Int.fdiv_eq_ediv_of_nonneg _ (by omega)]; omega
theorem Bw0 {t : Nat} (h : t ≤ 8) : Ao (Fu (1 : UInt8) t) (1 : UInt8) = UInt8.ofNat (2 ^ t - 1) := by
 have : t = 0 ∨ t = 1 ∨ t = 2 ∨ t = 3 ∨ t = 4 ∨ t = 5 ∨ t = 6 ∨ t = 7 ∨ t = 8 := by omega
 rcases this with rfl | rfl | rfl | rfl | rfl | rfl | rfl | rfl | rfl <;> decide
theorem bitsOf (c : UInt8) (off t : Nat) (h : t ≤ 8) : (Jg (Cg c off) (Ao (Fu (1 : UInt8) t) (1 : UInt8))).toNat = c.toNat / 2 ^ off % 2 ^ t := by
 have hp : 2 ^ t ≤ 2 ^ 8 := Nat.pow_le_pow_right (by omega) h
 rw [Bw0 h, Btc, UInt8.toNat_and, Bjx, UInt8.toNat_ofNat', Nat.mod_eq_of_lt (by have := Nat.pow_pos (n := t) (show 0 < 2 by omega); omega), Nat.and_two_pow_sub_one_eq_mod]
theorem Ayx {p : List UInt8} {k : Nat} (h : k < p.length) : Al p (k : Int) = some (p.getD k 0) := by
 rw [Cl h]; simp [List.getD_eq_getElem?_getD, h]
def Xk (p : List UInt8) (a n : Nat) : UInt64 := UInt64.ofNat (Bz p a n)
theorem Acb (p : List UInt8) (a n : Nat) (h : n ≤ 64) : (Xk p a n).toNat = Bz p a n := by
 have h1 := Tp p n a
 have h2 : 2 ^ n ≤ 2 ^ 64 := Nat.pow_le_pow_right (by omega) h
 rw [Xk, UInt64.toNat_ofNat', Nat.mod_eq_of_lt (by omega)]
theorem Bfi (p : List UInt8) (N : Int) (a n : Nat) (hn : n ≤ 64) (ha : a + n ≤ 8 * p.length) (hp : p.length ≤ 1000000) : ∀ (j h q : Nat), h + j = n → j < q → Afp (a : Int) (n : Int) p N q (Xk p a h) (h : Int) = some (Xk p a n)
 | j, h, q + 1, hj, hq => by
  rw [Afp, Aqm]
  by_cases hlt : h < n
  ·have e1 : Af (a : Int) (h : Int) = ((a + h : Nat) : Int) := by rw [Ah (by omega) (by omega)]; omega
   have e2 : Fv (Ao (n : Int) (h : Int)) (Ao (8 : Int) (((a + h) % 8 : Nat) : Int)) = ((min (n - h) (8 - (a + h) % 8) : Nat) : Int) := by
    rw [Ajz, Bt (by omega) (by omega), Bt (by omega) (by omega)]; omega
   have hm : (a + h) / 8 < p.length := by omega
   rw [if_pos (by rw [Ae]; simp; omega), e1, Bwx, Ayx hm, Aa, Bf6 _ (by omega), Cm (by rw [Dq]; simp; omega), Aa, e2, Cm (by rw [Dq]; simp), Aa, Cm (by rw [Dq]; simp), Aa]
   generalize hT : min (n - h) (8 - (a + h) % 8) = T
   have hT8 : T ≤ 8 := by omega
   have hT1 : 1 ≤ T := by omega
   have hb : (a + h) % 8 + T ≤ 8 := by omega
   have hv := Au1 p (a + h) T hb
   have z1 : (GI.toZ (((a + h) % 8 : Nat) : Int)).toNat = (a + h) % 8 := rfl
   have z2 : (GI.toZ ((T : Nat) : Int)).toNat = T := rfl
   have z3 : (GI.toZ ((h : Nat) : Int)).toNat = h := rfl
   rw [z1, z2, z3]
   have hx : (Ad (Jg (Cg (p.getD ((a + h) / 8) 0) ((a + h) % 8)) (Ao (Fu (1 : UInt8) T) (1 : UInt8))) : UInt64).toNat = Bz p (a + h) T := by
    rw [Asg, UInt64.toNat_ofNat', bitsOf _ _ _ hT8, ← hv]
    have := Tp p T (a + h)
    have h2 : 2 ^ T ≤ 2 ^ 8 := Nat.pow_le_pow_right (by omega) hT8
    omega
   have hlt2 := Tp p (h + T) a
   rw [Aip] at hlt2
   have h64 : 2 ^ (h + T) ≤ 2 ^ 64 := Nat.pow_le_pow_right (by omega) (by omega)
   have hor : gor (Xk p a h) (Fu (Ad (Jg (Cg (p.getD ((a + h) / 8) 0) ((a + h) % 8)) (Ao (Fu (1 : UInt8) T) (1 : UInt8))) : UInt64) h) = Xk p a (h + T) := by
    rw [Boq (by rw [Acb p a h (by omega)]; exact Tp p h a) (by rw [hx, Nat.mul_comm]; omega), hx, Acb p a h (by omega), Xk, Aip, Nat.mul_comm (2 ^ h)]
   rw [hor, Ah (by omega) (by omega), show (h : Int) + ((T : Nat) : Int) = ((h + T : Nat) : Int) by omega]
   exact Bfi p N a n hn ha hp (j - T) (h + T) q (by omega) (by omega)
  ·rw [if_neg (by rw [Ae]; simp; omega), show h = n by omega]; rfl
theorem get_eq (p : List UInt8) (N : Int) (a n : Nat) (hn : n ≤ 64) (ha : a + n ≤ 8 * p.length) (hp : p.length ≤ 1000000) : Ath p N (a : Int) (n : Int) = some (Xk p a n) := by
 have := Bfi p N a n hn ha hp n 0 Ay (by omega) (by have := Aq; omega)
 exact this
theorem Aid {p : List UInt8} {n : Nat} (h : okB p n) : Tl p (n : Int) = some 0 := by
 obtain ⟨h1, h2, h3⟩ := h
 have e7 : Af (n : Int) 7 = ((n + 7 : Nat) : Int) := by rw [Ah (by omega) (by omega)]; omega
 rw [Tl, e7, Bwx, if_neg (by simp [Ae, As, Aj, Ac, h2]; omega), Bf6 _ (by omega)]
 by_cases hz : n % 8 = 0
 ·rw [if_neg (by rw [As]; simp; omega)]
 ·have el : Ao (Ac p) 1 = ((p.length - 1 : Nat) : Int) := by rw [Ac, Bt (by omega) (by omega)]; omega
  rw [if_pos (by rw [As]; simp; omega), el, Ayx (by omega), Aa, Cm (by rw [Dq]; simp; omega), Aa]
  have z : (GI.toZ ((n % 8 : Nat) : Int)).toNat = n % 8 := rfl
  have hs : Cg (p.getD (p.length - 1) 0) (n % 8) = 0 := by
   apply UInt8.toNat_inj.1
   rw [Bjx]
   have hv := Au1 p n (8 - n % 8) (by omega)
   have h0 : Bz p n (8 - n % 8) = 0 := Bcj _ _ fun k hk => h3 _ (by omega) (by omega)
   rw [h0, show n / 8 = p.length - 1 by omega] at hv
   have hlt : (p.getD (p.length - 1) 0).toNat / 2 ^ (n % 8) < 2 ^ (8 - n % 8) := by
    have := (p.getD (p.length - 1) 0).toNat_lt
    rw [Nat.div_lt_iff_lt_mul (Nat.pow_pos (by omega)), ← Nat.pow_add, show 8 - n % 8 + n % 8 = 8 by omega]; simpa using this
   rw [Nat.mod_eq_of_lt hlt] at hv
   exact hv.symm
  rw [z, hs, if_neg (by rw [Bh8]; simp)]
theorem Auz {p : List UInt8} {N : Nat} (h : okB p N) (a n : Nat) (hn : n ≤ 64) : Adg p (N : Int) (a : Int) (n : Int) = some (if N < a + n then (0, 24) else (Xk p a n, 0)) := by
 obtain ⟨h1, h2, h3⟩ := h
 rw [Adg, Aid ⟨h1, h2, h3⟩, Aa, if_neg (by rw [Aj]; simp), if_neg (by simp [Ae, As]; omega), Bt (by omega) (by omega)]
 by_cases hl : N < a + n
 ·rw [if_pos (by rw [As]; simp; omega), if_pos hl]
 ·rw [if_neg (by rw [As]; simp; omega), get_eq p N a n hn (by omega) (by omega), Aa, if_neg hl]
end Go.Pl
set_option linter.unusedVariables false
set_option linter.unusedSimpArgs false
namespace Go.Pl
open Go Go.Lv
theorem Bxv (c : Nat) (h : c < 4611686018427387904) : Cn (c : Int) (2 : Int) = ((c / 2 : Nat) : Int) := by
 rw [Ag3, Int.tdiv_eq_ediv_of_nonneg (by omega), Ca (by omega) (by omega)]; omega
theorem Bw7 (c : Nat) (h : c < 4611686018427387904) : Cn (c : Int) (8 : Int) = ((c / 8 : Nat) : Int) := by
 rw [Ag3, Int.tdiv_eq_ediv_of_nonneg (by omega), Ca (by omega) (by omega)]; omega
theorem Bo4 (c : Nat) : Lk (c : Int) (8 : Int) = ((c % 8 : Nat) : Int) := by rw [Lk, Int.tmod_eq_emod_of_nonneg (by omega)]; omega
theorem Bxo (c : Nat) : Lk (c : Int) (2 : Int) = ((c % 2 : Nat) : Int) := by rw [Lk, Int.tmod_eq_emod_of_nonneg (by omega)]; omega
theorem Bjo (i c : Nat) (hc : c < 256) : ∀ (j k q : Nat), k + j = i % 8 → j < q → Jb (i : Int) q ((c / 2 ^ k : Nat) : Int) (k : Int) = some (((c / 2 ^ (i % 8) % 2 : Nat) : Int))
 | 0, k, q + 1, hk, _ => by
  rw [Jb, Td, Bo4, if_neg (by rw [Ae]; simp; omega), Aa1, Air, Bxo, show k = i % 8 by omega]
 | j + 1, k, q + 1, hk, hq => by
  have hle : c / 2 ^ k ≤ c := Nat.div_le_self _ _
  rw [Jb, Td, Bo4, if_pos (by rw [Ae]; simp; omega), Bxv _ (by omega), Ah (by omega) (by omega), Nat.div_div_eq_div_mul, ← Nat.pow_succ]
  exact Bjo i c hc j (k + 1) q (by omega) (by omega)
theorem Aut (p : List UInt8) (N : Int) (i : Nat) (h : i / 8 < p.length) (hi : i < 4611686018427387904) : Ij p N (i : Int) = some ((Jz p i : Nat) : Int) := by
 have hc := (p.getD (i / 8) 0).toNat_lt
 have := Bjo i (p.getD (i / 8) 0).toNat (by simpa using hc) (i % 8) 0 Ay (by omega) (by have := Aq; omega)
 rw [Ij, Aa4, Bw7 _ hi, Ayx h, Aa, Aic, Aax]
 simpa [Jz] using this
theorem Axj (p : List UInt8) (N : Int) (a n : Nat) (ha : a + n ≤ 8 * p.length) (hp : p.length ≤ 1000000) : ∀ (j q : Nat), j ≤ n → j < q → Fx (a : Int) p N q (Xk p (a + j) (n - j)) ((j : Int) - 1) = some (Xk p a n)
 | 0, q + 1, _, _ => by
  rw [Fx, Na, if_neg (by rw [Dq]; simp)]; rfl
 | j + 1, q + 1, hj, hq => by
  have hb := Zy p (a + j)
  rw [Fx, Na, show ((j + 1 : Nat) : Int) - 1 = (j : Int) by omega, if_pos (by rw [Dq]; simp), Ah (a := (a : Int)) (by omega) (by omega), show (a : Int) + (j : Int) = ((a + j : Nat) : Int) by omega, Aut p N (a + j) (by omega) (by omega), Aa, Bt (by omega) (by omega)]
  have e : Af (Bp (2 : UInt64) (Xk p (a + (j + 1)) (n - (j + 1)))) (Ad ((Jz p (a + j) : Nat) : Int) : UInt64) = Xk p (a + j) (n - j) := by
   rw [Agd, Afr, Abb, Xk, Xk, show n - j = (n - (j + 1)) + 1 by omega, Bz, show a + j + 1 = a + (j + 1) by omega, UInt64.ofNat_add, UInt64.ofNat_mul]
   exact UInt64.add_comm _ _
  rw [e]
  exact Axj p N a n ha hp j q (by omega) (by omega)
theorem Ar3 (p : List UInt8) (N : Int) (a n : Nat) (ha : a + n ≤ 8 * p.length) (hp : p.length ≤ 1000000) : Mo p N (a : Int) (n : Int) = some (Xk p a n) := by
 have := Axj p N a n ha hp n Ay (Nat.le_refl _) (by have := Aq; omega)
 have hz : Xk p (a + n) (n - n) = 0 := by rw [Nat.sub_self]; rfl
 rw [hz] at this
 rw [Mo, Vh, Uz, Bt (by omega) (by omega)]
 exact this
theorem Bj0 (bit : Int) (N : Nat) (l : List UInt8) : ∀ (j k q : Nat), k + j = N % 8 → j < q → Ie bit (N : Int) l q ((2 ^ k : Nat) : Int) (k : Int) = Qr bit ((2 ^ (N % 8) : Nat) : Int) (N : Int) l
 | 0, k, q + 1, hk, _ => by
  rw [Ie, Qi, Bo4, if_neg (by rw [Ae]; simp; omega), show k = N % 8 by omega]
 | j + 1, k, q + 1, hk, hq => by
  have hp : 2 ^ k ≤ 2 ^ 8 := Nat.pow_le_pow_right (by omega) (by omega)
  have e : Bp ((2 ^ k : Nat) : Int) 2 = ((2 ^ (k + 1) : Nat) : Int) := by
   rw [Nat.pow_succ]
   generalize 2 ^ k = K at *
   rw [Ip (by omega) (by omega)]; omega
  rw [Ie, Qi, Bo4, if_pos (by rw [Ae]; simp; omega), e, Ah (by omega) (by omega)]
  exact Bj0 bit N l j (k + 1) q (by omega) (by omega)
theorem Az2 (p : List UInt8) (a n j : Nat) (h : j < (n + 7) / 8) : (Ae1 p a n)[j]'(by rw [Ph]; exact h) = UInt8.ofNat (Bz p (a + 8 * j) (min 8 (n - 8 * j))) := by simp [Ae1]
theorem Bhd (p : List UInt8) (a t : Nat) (h : t ≤ 8) : Bz p a t < 256 := by
 have h1 := Tp p t a
 have h2 : 2 ^ t ≤ 2 ^ 8 := Nat.pow_le_pow_right (by omega) h
 omega
def room (p : List UInt8) (a n : Nat) : List UInt8 := if n % 8 = 0 then Ae1 p a n ++ [0] else Ae1 p a n
theorem Aae (p : List UInt8) (a n : Nat) : (room p a n).length = n / 8 + 1 := by
 rw [room]; split <;> simp [Ph] <;> omega
theorem Be9 (p : List UInt8) (a n j : Nat) (h : j < n / 8 + 1) : (room p a n)[j]'(by rw [Aae]; exact h) = UInt8.ofNat (Bz p (a + 8 * j) (min 8 (n - 8 * j))) := by
 have h0 : (room p a n)[j]? = some (UInt8.ofNat (Bz p (a + 8 * j) (min 8 (n - 8 * j)))) := by
  rw [room]
  split
  ·by_cases hj : j < (n + 7) / 8
   ·rw [List.getElem?_append_left (by rw [Ph]; exact hj), List.getElem?_eq_getElem (by rw [Ph]; exact hj), Az2 p a n j hj]
   ·rw [List.getElem?_append_right (by rw [Ph]; omega), Ph, show j - (n + 7) / 8 = 0 by omega, show n - 8 * j = 0 by omega]; rfl
  ·rw [List.getElem?_eq_getElem (by rw [Ph]; omega), Az2 p a n j (by omega)]
 rw [List.getElem?_eq_getElem (by rw [Aae]; exact h)] at h0
 exact Option.some.inj h0
theorem Bf5 (p : List UInt8) (a n T : Nat) (h1 : 1 ≤ T) (h : n % 8 + T ≤ 8) : (room p a n).set (n / 8) (UInt8.ofNat (Bz p (a + 8 * (n / 8)) (n % 8 + T))) = Ae1 p a (n + T) := by
 apply List.ext_getElem (by rw [List.length_set, Aae, Ph]; omega)
 intro j g1 g2
 rw [List.length_set, Aae] at g1
 rw [List.getElem_set, Az2 p a (n + T) j (by rw [Ph] at g2; exact g2)]
 split
 ·rename_i e; subst e; rw [show min 8 (n + T - 8 * (n / 8)) = n % 8 + T by omega]
 ·rw [Be9 p a n j g1, show min 8 (n - 8 * j) = 8 by omega, show min 8 (n + T - 8 * j) = 8 by omega]
theorem Bci (p : List UInt8) (a n : Nat) : (room p a n)[n / 8]'(by rw [Aae]; omega) = UInt8.ofNat (Bz p (a + 8 * (n / 8)) (n % 8)) := by
 rw [Be9 p a n _ (by omega), show min 8 (n - 8 * (n / 8)) = n % 8 by omega]
theorem Bou (p : List UInt8) (a n : Nat) (hn : n ≤ 400000) : Rp (Ae1 p a n) (n : Int) ((Jz p (a + n) : Nat) : Int) = some (Ae1 p a (n + 1), ((n + 1 : Nat) : Int)) := by
 have hb := Zy p (a + n)
 have hp : 2 ^ (n % 8) ≤ 2 ^ 7 := Nat.pow_le_pow_right (by omega) (by omega)
 have hroom : Rp (Ae1 p a n) (n : Int) ((Jz p (a + n) : Nat) : Int) = Qt ((Jz p (a + n) : Nat) : Int) (n : Int) (room p a n) := by
  rw [Rp, Zn, Bo4, room]
  by_cases h0 : n % 8 = 0
  ·rw [if_pos (by rw [Az, h0]; rfl), Cc (by rw [Ph]; simp; omega), Aa, if_pos h0]
  ·rw [if_neg (by rw [Az]; simp; omega), if_neg h0]
 have hl := Bj0 ((Jz p (a + n) : Nat) : Int) n (room p a n) (n % 8) 0 Ay (by omega) (by have := Aq; omega)
 rw [hroom, Qt, Zo, Zb]
 refine Eq.trans hl ?_
 have hg : Al (room p a n) ((n / 8 : Nat) : Int) = some (UInt8.ofNat (Bz p (a + 8 * (n / 8)) (n % 8))) := by
  rw [Cl (by rw [Aae]; omega), Bci]
 have hlt := Bhd p (a + 8 * (n / 8)) (n % 8 + 1) (by omega)
 have hsn := Bb5 p (a + 8 * (n / 8)) (n % 8)
 rw [show a + 8 * (n / 8) + n % 8 = a + n by omega] at hsn
 have hm : Bp ((Jz p (a + n) : Nat) : Int) ((2 ^ (n % 8) : Nat) : Int) = ((2 ^ (n % 8) * Jz p (a + n) : Nat) : Int) := by
  have hle : 2 ^ (n % 8) * Jz p (a + n) ≤ 2 ^ 7 * 1 := Nat.mul_le_mul hp (by omega)
  rw [Bo1, ← Int.natCast_mul, Ca (by omega) (by rw [Nat.mul_comm]; omega), Nat.mul_comm]
 have hx : Af (UInt8.ofNat (Bz p (a + 8 * (n / 8)) (n % 8))) (Ad (((2 ^ (n % 8) * Jz p (a + n) : Nat) : Int)) : UInt8) = UInt8.ofNat (Bz p (a + 8 * (n / 8)) (n % 8 + 1)) := by
  rw [Brf, Bp5, hsn, UInt8.ofNat_add]
 rw [Qr, Ahj, Bw7 _ (by omega), hg, Aa, Aa, Aa, hm, hx, Za _ (by rw [Aae]; omega), Aa, Bf5 p a n 1 (by omega) (by omega), Ah (by omega) (by omega)]; rfl
theorem Ate (p : List UInt8) (N : Int) (a n : Nat) (ha : a + n ≤ 8 * p.length) (hp : p.length ≤ 1000000) (hn : n ≤ 300000) : ∀ (j m q : Nat), m + j = n → j < q → Ee ((a + n : Nat) : Int) p N q ((a + m : Nat) : Int) (m : Int) (Ae1 p a m) = some (Ae1 p a n, (n : Int))
 | 0, m, q + 1, hm, _ => by
  rw [Ee, Ke, if_neg (by rw [Ae]; simp; omega), show m = n by omega]; rfl
 | j + 1, m, q + 1, hm, hq => by
  rw [Ee, Ke, if_pos (by rw [Ae]; simp; omega), Aut p N (a + m) (by omega) (by omega), Aa, Bou p a m (by omega), Aa]
  simp only
  rw [Ah (by omega) (by omega)]
  exact Ate p N a n ha hp hn j (m + 1) q (by omega) (by omega)
theorem Beg (p : List UInt8) (N : Int) (a n : Nat) (ha : a + n ≤ 8 * p.length) (hp : p.length ≤ 1000000) (hn : n ≤ 300000) : Xl p N (a : Int) ((a + n : Nat) : Int) = some (Ae1 p a n, (n : Int)) := by
 have := Ate p N a n ha hp hn n 0 Ay (by omega) (by have := Aq; omega)
 exact this
end Go.Pl
set_option linter.unusedVariables false
set_option linter.unusedSimpArgs false
namespace Go.Pl
open Go Go.Lv
theorem Bvr {t : Nat} (h : t ≤ 8) : Ao (Fu (1 : UInt64) t) (1 : UInt64) = UInt64.ofNat (2 ^ t - 1) := by
 have : t = 0 ∨ t = 1 ∨ t = 2 ∨ t = 3 ∨ t = 4 ∨ t = 5 ∨ t = 6 ∨ t = 7 ∨ t = 8 := by omega
 rcases this with rfl | rfl | rfl | rfl | rfl | rfl | rfl | rfl | rfl <;> decide
theorem Bxx (v : UInt64) {t : Nat} (h : t ≤ 8) : (Jg v (Ao (Fu (1 : UInt64) t) (1 : UInt64))).toNat = v.toNat % 2 ^ t := by
 have hp : 2 ^ t ≤ 2 ^ 8 := Nat.pow_le_pow_right (by omega) h
 rw [Bvr h, Azz, UInt64.toNat_and, UInt64.toNat_ofNat', Nat.mod_eq_of_lt (by have := Nat.pow_pos (n := t) (show 0 < 2 by omega); omega), Nat.and_two_pow_sub_one_eq_mod]
theorem or8 {v w i : Nat} (hv : v < 2 ^ i) (hw : w * 2 ^ i < 256) (hi : i < 8) : gor (UInt8.ofNat v) (Fu (UInt8.ofNat w) i) = UInt8.ofNat (v + w * 2 ^ i) := by
 have hp : 2 ^ i ≤ 2 ^ 8 := Nat.pow_le_pow_right (by omega) (by omega)
 have hpos : 0 < 2 ^ i := Nat.pow_pos (by omega)
 have hw2 : w < 256 := Nat.lt_of_le_of_lt (Nat.le_mul_of_pos_right w hpos) hw
 rw [Buo]; apply UInt8.toNat_inj.1
 have e1 : (UInt8.ofNat v).toNat = v := by rw [UInt8.toNat_ofNat', Nat.mod_eq_of_lt (by omega)]
 have e2 : (UInt8.ofNat w).toNat = w := by rw [UInt8.toNat_ofNat', Nat.mod_eq_of_lt (by omega)]
 rw [UInt8.toNat_or, Br9, e1, e2, Nat.mod_eq_of_lt hw, Nat.mul_comm w, Nat.or_comm, ← Nat.two_pow_add_eq_or_of_lt hv, UInt8.toNat_ofNat', Nat.add_comm v]
 rw [Nat.mul_comm] at hw
 have hb : 2 ^ i * w + v < 256 := by
  rw [Nat.two_pow_add_eq_or_of_lt hv]
  exact Nat.or_lt_two_pow (n := 8) hw (by omega)
 rw [Nat.mod_eq_of_lt hb]
theorem Bok (p : List UInt8) (a n T : Nat) (h : T ≤ n) (hn : n ≤ 64) : Cg (Xk p a n) T = Xk p (a + T) (n - T) := by
 apply UInt64.toNat_inj.1
 rw [Af2, Acb p a n hn, Acb p (a + T) (n - T) (by omega)]
 have := Tp p T a
 conv => lhs; rw [show n = T + (n - T) by omega, Aip, Nat.add_mul_div_left _ _ (Nat.pow_pos (by omega)), Nat.div_eq_of_lt this, Nat.zero_add]
theorem Bn4 (p : List UInt8) (a n T : Nat) (h : T ≤ n) (hn : n ≤ 64) : (Xk p a n).toNat % 2 ^ T = Bz p a T := by
 have := Tp p T a
 rw [Acb p a n hn]
 conv => lhs; rw [show n = T + (n - T) by omega, Aip, Nat.add_mul_mod_self_left, Nat.mod_eq_of_lt this]
theorem Aw8 (bk : Int → Int → List UInt8 → Option (List UInt8 × Int × Int)) (to' : Int) (p : List UInt8) (N fr : Int) (r6 : UInt64) (a : Nat) : ∀ (j m q : Nat), m + j ≤ 300000 → j ≤ 64 → j < q →
  Oe bk to' p N fr r6 q (Xk p (a + m) j) (j : Int) (m : Int) (Ae1 p a m) = Ah0 bk to' p N fr ((m + j : Nat) : Int) (Ae1 p a (m + j))
 | 0, m, q + 1, _, _, _ => by
  rw [Oe, Aht, if_neg (by rw [As]; simp)]; rfl
 | j + 1, m, q + 1, hm, hj, hq => by
  have hroom : Oe bk to' p N fr r6 (q + 1) (Xk p (a + m) (j + 1)) ((j + 1 : Nat) : Int) (m : Int) (Ae1 p a m) = Ahs (Oe bk to' p N fr r6 q) to' fr p N r6 (Xk p (a + m) (j + 1)) ((j + 1 : Nat) : Int) (m : Int) (room p a m) := by
   rw [Oe, Aht, if_pos (by rw [As]; simp), Bf6 m (by omega), room]
   by_cases h0 : m % 8 = 0
   ·rw [if_pos (by rw [Az, h0]; rfl), Cc (by rw [Ph]; simp; omega), Aa, if_pos h0]
   ·rw [if_neg (by rw [Az]; simp; omega), if_neg h0]
  have hl : Ao (Ac (room p a m)) 1 = ((m / 8 : Nat) : Int) := by
   rw [Ac, Aae, Bt (by omega) (by omega)]; omega
  have e2 : Fv ((j + 1 : Nat) : Int) (Ao (8 : Int) ((m % 8 : Nat) : Int)) = ((min (j + 1) (8 - m % 8) : Nat) : Int) := by
   rw [Ajz, Bt (by omega) (by omega)]; omega
  rw [hroom, Ahs, An9, Bf6 m (by omega), e2, hl]
  generalize hT : min (j + 1) (8 - m % 8) = T
  have hT1 : 1 ≤ T := by omega
  have hT8 : m % 8 + T ≤ 8 := by omega
  have hg : Al (room p a m) ((m / 8 : Nat) : Int) = some (UInt8.ofNat (Bz p (a + 8 * (m / 8)) (m % 8))) := by
   rw [Cl (by rw [Aae]; omega), Bci]
  have z1 : (GI.toZ ((m % 8 : Nat) : Int)).toNat = m % 8 := rfl
  have z2 : (GI.toZ ((T : Nat) : Int)).toNat = T := rfl
  have hlt := Bhd p (a + 8 * (m / 8)) (m % 8 + T) (by omega)
  have hadd := Aip p (m % 8) T (a + 8 * (m / 8))
  rw [show a + 8 * (m / 8) + m % 8 = a + m by omega] at hadd
  have hbyte : (Ad (Jg (Xk p (a + m) (j + 1)) (Ao (Fu (1 : UInt64) T) (1 : UInt64))) : UInt8) = UInt8.ofNat (Bz p (a + m) T) := by
   rw [Anz, Bxx _ (by omega), Bn4 p (a + m) (j + 1) T (by omega) hj]
  have hnew : gor (UInt8.ofNat (Bz p (a + 8 * (m / 8)) (m % 8))) (Fu (UInt8.ofNat (Bz p (a + m) T)) (m % 8)) = UInt8.ofNat (Bz p (a + 8 * (m / 8)) (m % 8 + T)) := by
   rw [or8 (Tp _ _ _) (by rw [Nat.mul_comm]; omega) (by omega), hadd, Nat.mul_comm (2 ^ (m % 8))]
  rw [hg, z1, z2, hbyte]
  simp only [Aa]
  rw [Cm (by rw [Dq]; simp), Aa, Cm (by rw [Dq]; simp; omega), Aa, hnew, Za _ (by rw [Aae]; omega), Aa, Bf5 p a m T hT1 hT8, Anp, At0, Bf6 m (by omega), e2, hT, Cm (by rw [Dq]; simp), Aa, z2, Bok p (a + m) (j + 1) T (by omega) hj, Bt (by omega) (by omega), Ah (by omega) (by omega)]
  have ih := Aw8 bk to' p N fr r6 a (j + 1 - T) (m + T) q (by omega) (by omega) (by omega)
  rw [show m + T + (j + 1 - T) = m + (j + 1) by omega] at ih
  rw [← ih, show a + m + T = a + (m + T) by omega, show ((j + 1 : Nat) : Int) - ((T : Nat) : Int) = ((j + 1 - T : Nat) : Int) by omega, show (m : Int) + ((T : Nat) : Int) = ((m + T : Nat) : Int) by omega]
theorem Be3 (p : List UInt8) (N : Int) (a n : Nat) (ha : a + n ≤ 8 * p.length) (hp : p.length ≤ 1000000) (hn : n ≤ 300000) : ∀ (j m f q : Nat), (f = m ∨ n ≤ f ∧ m = n) → m + j = n → f ≤ n + 64 → j < q → Yj ((a + n : Nat) : Int) p N q ((a + f : Nat) : Int) (m : Int) (Ae1 p a m) = some (Ae1 p a n, (n : Int), 0)
 | j, m, f, q + 1, hf, hm, hf2, hq => by
  rw [Yj, Anu]
  by_cases hlt : f < n
  ·obtain rfl : f = m := by omega
   have e1 : Fv (64 : Int) (Ao ((a + n : Nat) : Int) ((a + f : Nat) : Int)) = ((min 64 (n - f) : Nat) : Int) := by
    rw [Ajz, Bt (by omega) (by omega)]; omega
   rw [if_pos (by rw [Ae]; simp; omega), e1, get_eq p N (a + f) _ (by omega) (by omega) hp, Aa, An6]
   have h1 := Aw8 (Yj ((a + n : Nat) : Int) p N q) ((a + n : Nat) : Int) p N ((a + f : Nat) : Int) (Xk p (a + f) (min 64 (n - f))) a (min 64 (n - f)) f Ay (by omega) (by omega) (by have := Aq; omega)
   refine Eq.trans h1 ?_
   rw [Ah0, As7, Ah (by omega) (by omega), show ((a + f : Nat) : Int) + 64 = ((a + (f + 64) : Nat) : Int) by omega]
   exact Be3 p N a n ha hp hn (j - min 64 (n - f)) (f + min 64 (n - f)) (f + 64) q (by omega) (by omega) (by omega) (by omega)
  ·rw [if_neg (by rw [Ae]; simp; omega), Amq, At6, show m = n by omega]
theorem Bug {p : List UInt8} {N : Nat} (h : okB p N) (a n : Nat) (ha : a + n ≤ N) (hn : n ≤ 300000) : Ap3 p (N : Int) (a : Int) ((a + n : Nat) : Int) = some (Ae1 p a n, (n : Int), 0) := by
 obtain ⟨h1, h2, h3⟩ := h
 have := Be3 p N a n (by omega) (by omega) hn n 0 0 Ay (by omega) (by omega) (by omega) (by have := Aq; omega)
 rw [Ap3, Aqi, Aid ⟨h1, h2, h3⟩, Aa, if_neg (by rw [Aj]; simp), if_neg (by simp [Ae, As]; omega), Am4]
 exact this
end Go.Pl
set_option linter.unusedVariables false
set_option linter.unusedSimpArgs false
namespace Go.Pl
open Go Go.Lv
def Fw (p : List UInt8) : Nat → Nat → Nat
 | _, 0 => 0
 | a, m + 1 => if Jz p a = 1 then 1 + Fw p (a + 1) m else 0
theorem Akn (p : List UInt8) : ∀ (m a : Nat), Fw p a m ≤ m
 | 0, _ => Nat.le_refl _
 | m + 1, a => by rw [Fw]; split <;> have := Akn p m (a + 1) <;> omega
theorem Bhf (p : List UInt8) : ∀ (m a : Nat), ∃ s, Bz p a m + 1 = 2 ^ (Fw p a m + 1) * s + 2 ^ Fw p a m ∧ (Fw p a m = m → s = 0)
 | 0, a => ⟨0, by simp [Bz, Fw], fun _ => rfl⟩
 | m + 1, a => by
  have hb := Zy p a
  obtain ⟨s, h1, h2⟩ := Bhf p m (a + 1)
  by_cases h : Jz p a = 1
  ·refine ⟨s, ?_, fun e => h2 ?_⟩
   ·rw [Fw, if_pos h, Bz, h, show 1 + Fw p (a + 1) m + 1 = (Fw p (a + 1) m + 1) + 1 by omega, show 1 + Fw p (a + 1) m = Fw p (a + 1) m + 1 by omega, Nat.pow_succ, Nat.pow_succ (n := 2) (m := Fw p (a + 1) m)]
    rw [Nat.pow_succ] at h1
    generalize Bz p (a + 1) m = V at *
    generalize 2 ^ Fw p (a + 1) m = W at *
    have e1 : W * 2 * 2 * s = 2 * (W * 2 * s) := by rw [Nat.mul_right_comm (W * 2) 2 s, Nat.mul_comm]
    omega
   ·rw [Fw, if_pos h] at e; omega
  ·refine ⟨Bz p (a + 1) m, ?_, fun e => ?_⟩
   ·rw [Fw, if_neg h, Bz]; simp; omega
   ·rw [Fw, if_neg h] at e; omega
theorem Brl {n t s : Nat} (h : 2 ^ (t + 1) * s + 2 ^ t ≤ 2 ^ n) (ht : t < n) (x : Nat) (hx : x = 2 ^ n - (2 ^ (t + 1) * s + 2 ^ t)) : x &&& (2 ^ (t + 1) * s + 2 ^ t) = 2 ^ t := by
 have hpos : 0 < 2 ^ t := Nat.pow_pos (by omega)
 have hlt : 2 ^ t < 2 ^ (t + 1) := by rw [Nat.pow_succ]; omega
 have e : x = 2 ^ n - ((2 ^ (t + 1) * s + (2 ^ t - 1)) + 1) := by rw [hx]; congr 1; omega
 apply Nat.eq_of_testBit_eq
 intro i
 rw [Nat.testBit_and, e, Nat.testBit_two_pow_sub_succ (by omega), Nat.testBit_two_pow_mul_add _ (by omega), Nat.testBit_two_pow_mul_add _ hlt]
 by_cases hi : i < t + 1
 ·rw [if_pos hi, if_pos hi, Nat.testBit_two_pow_sub_one, Nat.testBit_two_pow]
  by_cases hit : t = i
  ·subst hit; simp; exact ht
  ·have : ¬ i = t := fun e => hit e.symm
   simp [hit]
 ·rw [if_neg hi, if_neg hi, Nat.testBit_two_pow]
  have : ¬ t = i := by omega
  simp [this]
theorem Bqg (a : UInt64) : (Ay3 a).toNat = 18446744073709551615 - a.toNat := by
 have h := a.toNat_lt
 have e : Ay3 a = UInt64.ofNat (BitVec.ofInt 64 18446744073709551615 ^^^ BitVec.ofInt 64 (a.toNat : Int)).toNat := Hf _
 have h1 : BitVec.ofInt 64 (a.toNat : Int) = a.toBitVec := Bd7 a
 have h2 : (BitVec.ofInt 64 18446744073709551615 : BitVec 64) = BitVec.allOnes 64 := by decide
 rw [e, UInt64.toNat_ofNat', h1, h2, BitVec.allOnes_xor, BitVec.toNat_not]
 show (18446744073709551616 - 1 - a.toNat) % 18446744073709551616 = 18446744073709551615 - a.toNat
 omega
theorem Bn0 (a : UInt64) : (Atc a).toNat = (18446744073709551616 - a.toNat) % 18446744073709551616 := by
 have h := a.toNat_lt
 have e : Atc a = UInt64.ofNat ((0 - (a.toNat : Int)) % 18446744073709551616).toNat := Bdm _
 rw [e, UInt64.toNat_ofNat']
 show ((0 - (a.toNat : Int)) % 18446744073709551616).toNat % 18446744073709551616 = _
 omega
def Bwa : List UInt8 := [0, 1, 56, 2, 57, 49, 28, 3, 61, 58, 42, 50, 38, 29, 17, 4, 62, 47, 59, 36, 45, 43, 51, 22, 53, 39, 33, 30, 24, 18, 12, 5, 63, 55, 48, 27, 60, 41, 37, 16, 46, 35, 44, 21, 52, 32, 23, 11, 54, 26, 40, 15, 34, 20, 31, 10, 25, 14, 19, 9, 13, 8, 7, 6]
theorem Bli : ∀ t : Fin 64, Al Bwa (GI.toZ (Cg (Bp (UInt64.ofNat (2 ^ t.val)) (285870213051353865 : UInt64)) (GI.toZ (58 : UInt64)).toNat)) = some (UInt8.ofNat t.val) := by decide +kernel
theorem Bxc (x : UInt64) (t s : Nat) (ht : t < 64) (h : x.toNat + (2 ^ (t + 1) * s + 2 ^ t) = 18446744073709551616) : Fi x = some (t : Int) := by
 have hpos : 0 < 2 ^ t := Nat.pow_pos (by omega)
 have hx : x.toNat = 2 ^ 64 - (2 ^ (t + 1) * s + 2 ^ t) := by show x.toNat = 18446744073709551616 - _; omega
 have hle : 2 ^ t ≤ 2 ^ 63 := Nat.pow_le_pow_right (by omega) (by omega)
 have hne : x ≠ 0 := by
  intro e
  rw [e] at h
  have h' : 2 ^ t * (2 * s + 1) = 2 ^ 64 := by
   rw [Nat.mul_add, Nat.mul_one, ← Nat.mul_assoc, ← Nat.pow_succ]
   show _ = 18446744073709551616
   simpa using h
  have h2 : 2 ^ 64 = 2 ^ t * 2 ^ (64 - t) := by rw [← Nat.pow_add]; congr 1; omega
  rw [h2] at h'
  have h3 := Nat.eq_of_mul_eq_mul_left hpos h'
  rw [show 64 - t = (63 - t) + 1 by omega, Nat.pow_succ] at h3
  omega
 have hx0 : x.toNat ≠ 0 := fun e => hne (UInt64.toNat_inj.1 e)
 have hl : Jg x (Atc x) = UInt64.ofNat (2 ^ t) := by
  apply UInt64.toNat_inj.1
  rw [Azz, UInt64.toNat_and, Bn0, show (18446744073709551616 - x.toNat) % 18446744073709551616 = 2 ^ (t + 1) * s + 2 ^ t by omega, Brl (n := 64) (by show _ ≤ 18446744073709551616; omega) ht _ hx, UInt64.toNat_ofNat', Nat.mod_eq_of_lt]
  exact Nat.lt_of_le_of_lt hle (by decide)
 have hb := Bli ⟨t, ht⟩
 rw [Fi, if_neg (by rw [Aws]; simpa using hne), hl]
 refine Eq.trans (congrArg (fun o => Option.bind o fun c => some (Ad c : Int)) hb) ?_
 rw [Aa, Aic, UInt8.toNat_ofNat', Nat.mod_eq_of_lt (by show t < 256; omega)]
theorem Bso (p : List UInt8) (a m : Nat) (hm : m ≤ 48) : Fi (Ay3 (Xk p a m)) = some ((Fw p a m : Nat) : Int) := by
 obtain ⟨s, h1, h2⟩ := Bhf p m a
 have hle := Akn p m a
 have hlt := Tp p m a
 have h48 : 2 ^ m ≤ 2 ^ 48 := Nat.pow_le_pow_right (by omega) hm
 have hn : (Ay3 (Xk p a m)).toNat = 18446744073709551615 - Bz p a m := by rw [Bqg, Acb p a m (by omega)]
 have h3 : (281474976710656 : Nat) = 2 ^ 48 := rfl
 refine Bxc _ (Fw p a m) s (by omega) ?_
 rw [hn]; omega
def unS (p : List UInt8) (N a : Nat) : Int × Int × Int :=
 if Fw p a (min 48 (N - a)) < min 48 (N - a) then ((Fw p a (min 48 (N - a)) : Nat), ((a + Fw p a (min 48 (N - a)) + 1 : Nat) : Int), 0) else
 if Fw p a (min 48 (N - a)) = 48 then (48, ((a + 48 : Nat) : Int), 0) else (0, 0, 24)
theorem Bnw {p : List UInt8} {N : Nat} (h : okB p N) (a : Nat) (ha : a < N) : Aex p (N : Int) (a : Int) = some (unS p N a) := by
 have hN := h.1
 have e1 : Fv (48 : Int) (Ao (N : Int) (a : Int)) = ((min 48 (N - a) : Nat) : Int) := by rw [Ajz, Bt (by omega) (by omega)]; omega
 have hle := Akn p (min 48 (N - a)) a
 rw [Aex, Zx, Aid h, Aa, if_neg (by rw [Aj]; simp), if_neg (by rw [Ae]; simp), if_neg (by rw [Dq]; simp; omega), e1, Auz h a _ (by omega), if_neg (by omega), Aa]
 simp only
 rw [Alc, Ak3, if_neg (by rw [Aj]; simp), Bso p a _ (by omega), Aa, Ak7, Ald, e1, unS]
 by_cases h1 : Fw p a (min 48 (N - a)) < min 48 (N - a)
 ·rw [if_pos (by rw [Ae]; simp; omega), if_pos h1, Ah (a := (a : Int)) (by omega) (by omega), show Af (0 : Int) 1 = 1 by decide, Ah (by omega) (by omega)]
  congr 3; omega
 ·rw [if_neg (by rw [Ae]; simp; omega), if_neg h1, Aky, Ale]
  by_cases h2 : Fw p a (min 48 (N - a)) = 48
  ·rw [if_pos (by rw [Az, h2]; rfl), if_pos h2, h2, Ah (a := (a : Int)) (by omega) (by omega), Ah (by omega) (by omega)]
   congr 3; omega
  ·rw [if_neg (by rw [Az]; simp; omega), if_neg h2]; rfl
theorem Bbj (p : List UInt8) : ∀ (m a : Nat), Fw p a m < m → Jz p (a + Fw p a m) ≠ 1
 | 0, _, h => by simp [Fw] at h
 | m + 1, a, h => by
  by_cases hb : Jz p a = 1
  ·rw [Fw, if_pos hb] at h ⊢
   have := Bbj p m (a + 1) (by omega)
   rwa [show a + (1 + Fw p (a + 1) m) = a + 1 + Fw p (a + 1) m by omega]
  ·rw [Fw, if_neg hb]; exact hb
theorem Ba7 (p : List UInt8) : ∀ (m a k : Nat), k < Fw p a m → Jz p (a + k) = 1
 | 0, a, k, h => by simp [Fw] at h
 | m + 1, a, k, h => by
  by_cases hb : Jz p a = 1
  ·rw [Fw, if_pos hb] at h
   cases k with
   | zero => exact hb
   | succ k =>
    have := Ba7 p m (a + 1) k (by omega)
    rwa [show a + (k + 1) = a + 1 + k by omega]
  ·rw [Fw, if_neg hb] at h; omega
def unR (p : List UInt8) (N a : Nat) : Int × Int := if (unS p N a).2.2 = 0 then ((unS p N a).1, (unS p N a).2.1) else (-1, 0)
theorem Azq {p : List UInt8} {N : Nat} (h : okB p N) (a : Nat) (ha : a < N) : ∀ (j k q : Nat), k + j = Fw p a (min 48 (N - a)) → j < q → If (a : Int) p (N : Int) q (k : Int) = some (unR p N a)
 | 0, k, q + 1, hk, _ => by
  obtain ⟨hN, hl, hz⟩ := h
  have hle := Akn p (min 48 (N - a)) a
  have hk' : k = Fw p a (min 48 (N - a)) := by omega
  have e1 : Af (a : Int) (k : Int) = ((a + k : Nat) : Int) := by rw [Ah (by omega) (by omega)]; omega
  have hend : Qf (a : Int) (k : Int) p (N : Int) = some (unR p N a) := by
   rw [Qf, Aho, e1]
   by_cases h48 : k = 48
   ·have hu : unS p N a = (48, ((a + 48 : Nat) : Int), 0) := by rw [unS, ← hk', if_neg (by omega), if_pos h48]
    rw [if_pos (by rw [Az, h48]; rfl), unR, hu, h48]; rfl
   ·rw [if_neg (by rw [Az]; simp; omega)]
    by_cases hN2 : N ≤ a + k
    ·have hu : unS p N a = (0, 0, 24) := by rw [unS, ← hk', if_neg (by omega), if_neg h48]
     rw [if_pos (by rw [Dq]; simp; omega), unR, hu]; rfl
    ·have hu : unS p N a = (((k : Nat) : Int), ((a + k + 1 : Nat) : Int), 0) := by rw [unS, ← hk', if_pos (by omega)]
     rw [if_neg (by rw [Dq]; simp; omega), unR, hu, Ah (by omega) (by omega)]; rfl
  rw [If, Qj, e1]
  by_cases hc : a + k < N ∧ k < 48
  ·have hb := Zy p (a + k)
   have hs := Bbj p (min 48 (N - a)) a (by omega)
   rw [← hk'] at hs
   rw [if_pos (by simp [Ae]; omega), Aut p _ (a + k) (by omega) (by omega), Aa, if_neg (by rw [Az]; simp; omega), hend]
  ·rw [if_neg (by simp [Ae]; omega), hend]
 | j + 1, k, q + 1, hk, hq => by
  obtain ⟨hN, hl, hz⟩ := h
  have hle := Akn p (min 48 (N - a)) a
  have hb := Ba7 p (min 48 (N - a)) a k (by omega)
  have e1 : Af (a : Int) (k : Int) = ((a + k : Nat) : Int) := by rw [Ah (by omega) (by omega)]; omega
  rw [If, Qj, e1, if_pos (by simp [Ae]; omega), Aut p _ (a + k) (by omega) (by omega), Aa, hb, if_pos (by decide), Ah (by omega) (by omega)]
  exact Azq ⟨hN, hl, hz⟩ a ha j (k + 1) q (by omega) (by omega)
theorem Bpw {p : List UInt8} {N : Nat} (h : okB p N) (a : Nat) (ha : a < N) : Ae3 p (N : Int) (a : Int) = some (unR p N a) := by
 have hle := Akn p (min 48 (N - a)) a
 have := Azq h a ha (Fw p a (min 48 (N - a))) 0 Ay (by omega) (by have := Aq; omega)
 exact this
end Go.Pl
set_option linter.unusedVariables false
set_option linter.unusedSimpArgs false
namespace Go.Pl
open Go Go.Lv
theorem Bqq {p : List UInt8} {N a : Nat} (h : Fw p a (min 48 (N - a)) < min 48 (N - a)) : unS p N a = (((Fw p a (min 48 (N - a)) : Nat) : Int), ((a + Fw p a (min 48 (N - a)) + 1 : Nat) : Int), 0) := by rw [unS, if_pos h]
theorem Bn6 {p : List UInt8} {N a : Nat} (h : ¬ Fw p a (min 48 (N - a)) < min 48 (N - a)) (h2 : Fw p a (min 48 (N - a)) = 48) : unS p N a = (48, ((a + 48 : Nat) : Int), 0) := by rw [unS, if_neg h, if_pos h2]
theorem Bqu {p : List UInt8} {N a : Nat} (h : ¬ Fw p a (min 48 (N - a)) < min 48 (N - a)) (h2 : ¬ Fw p a (min 48 (N - a)) = 48) : unS p N a = (0, 0, 24) := by rw [unS, if_neg h, if_neg h2]
theorem Bl1 {p : List UInt8} {N : Nat} (h : okB p N) (a : Nat) (ha : N ≤ a) : Aex p (N : Int) (a : Int) = some (0, 0, 24) := by
 rw [Aex, Zx, Aid h, Aa, if_neg (by rw [Aj]; simp), if_neg (by rw [Ae]; simp), if_pos (by rw [Dq]; simp; omega)]
def rcS (p : List UInt8) (N a k : Nat) : UInt32 × Int × Int :=
 if N ≤ a then (0, 0, 24) else
 if Fw p a (min 48 (N - a)) < min 48 (N - a) then
  (if N < a + Fw p a (min 48 (N - a)) + 1 + k then (0, 0, 24) else (UInt32.ofNat (Fw p a (min 48 (N - a)) * 2 ^ k + Bz p (a + Fw p a (min 48 (N - a)) + 1) k), ((a + Fw p a (min 48 (N - a)) + 1 + k : Nat) : Int), 0))
 else if Fw p a (min 48 (N - a)) = 48 then
  (if N < a + 48 + 32 then (0, 0, 24) else if Bz p (a + 48) 32 / 2 ^ k < 48 then (0, 0, 12) else (UInt32.ofNat (Bz p (a + 48) 32), ((a + 48 + 32 : Nat) : Int), 0))
 else (0, 0, 24)
theorem As0 {p : List UInt8} {a n : Nat} (h : n ≤ 32) : (Ad (Xk p a n) : UInt32) = UInt32.ofNat (Bz p a n) := by
 have e : (Ad (Xk p a n) : UInt32) = UInt32.ofNat (Xk p a n).toNat := by simp only [Ad, Is, Dw]
 rw [e, Acb p a n (by omega)]
theorem Amv {n : Nat} (h : n < 4294967296) : (UInt32.ofNat n).toNat = n := by rw [UInt32.toNat_ofNat']; exact Nat.mod_eq_of_lt h
theorem Bgi (p : List UInt8) (a : Nat) {n : Nat} (h : n ≤ 32) : Bz p a n < 4294967296 := by
 have h1 := Tp p n a
 have h2 : 2 ^ n ≤ 2 ^ 32 := Nat.pow_le_pow_right (by omega) h
 omega
theorem Bvo {q v k : Nat} (hq : q < 48) (hv : v < 2 ^ k) (hk : k ≤ 24) : gor (Fu (Ad (q : Int) : UInt32) k) (UInt32.ofNat v) = UInt32.ofNat (q * 2 ^ k + v) := by
 have hp : 2 ^ k ≤ 2 ^ 24 := Nat.pow_le_pow_right (by omega) hk
 have h1 : q * 2 ^ k ≤ 47 * 2 ^ 24 := Nat.mul_le_mul (by omega) hp
 rw [Bry]; apply UInt32.toNat_inj.1
 rw [UInt32.toNat_or, Az7, Bbp, Amv (by omega), Amv (n := v) (by omega), Nat.mod_eq_of_lt (by omega), Nat.mul_comm q, ← Nat.two_pow_add_eq_or_of_lt hv, Amv (by rw [Nat.mul_comm]; omega)]
theorem Btr {p : List UInt8} {N : Nat} (h : okB p N) (a k : Nat) (hk : k ≤ 24) : Aqy p (N : Int) (a : Int) (k : Int) = some (rcS p N a k) := by
 have hN := h.1
 rw [Aqy, An8, Aid h, Aa, if_neg (by rw [Aj]; simp), if_neg (by simp [Ae, As]; omega)]
 by_cases ha : N ≤ a
 ·rw [Bl1 h a ha, Aa, rcS, if_pos ha]; rfl
 have hle := Akn p (min 48 (N - a)) a
 rw [Bnw h a (by omega), Aa]
 by_cases h1 : Fw p a (min 48 (N - a)) < min 48 (N - a)
 ·have hS : rcS p N a k = if N < a + Fw p a (min 48 (N - a)) + 1 + k then (0, 0, 24) else (UInt32.ofNat (Fw p a (min 48 (N - a)) * 2 ^ k + Bz p (a + Fw p a (min 48 (N - a)) + 1) k), ((a + Fw p a (min 48 (N - a)) + 1 + k : Nat) : Int), 0) := by rw [rcS, if_neg ha, if_pos h1]
  rw [Bqq h1, hS]
  generalize Fw p a (min 48 (N - a)) = q at *
  simp only
  rw [if_neg (by rw [Aj]; simp), if_neg (by rw [Az]; simp; omega), Ah1, Anb, Auz h _ k (by omega), Aa]
  by_cases h2 : N < a + q + 1 + k
  ·rw [if_pos h2, if_pos h2]; rfl
  ·rw [if_neg h2, if_neg h2]
   simp only
   have z : (GI.toZ (k : Int)).toNat = k := rfl
   rw [if_neg (by rw [Aj]; simp), if_pos (by rw [Ae]; simp; omega), Cm (by rw [Dq]; simp), Aa, z, As0 (by omega), Bvo (by omega) (Tp _ _ _) hk, Ah (by omega) (by omega)]; rfl
 ·by_cases h2 : Fw p a (min 48 (N - a)) = 48
  ·have hS : rcS p N a k = if N < a + 48 + 32 then (0, 0, 24) else if Bz p (a + 48) 32 / 2 ^ k < 48 then (0, 0, 12) else (UInt32.ofNat (Bz p (a + 48) 32), ((a + 48 + 32 : Nat) : Int), 0) := by rw [rcS, if_neg ha, if_neg h1, if_pos h2]
   have hg := Auz h (a + 48) 32 (by omega)
   rw [Bn6 h1 h2, hS]
   simp only
   rw [if_neg (by rw [Aj]; simp), if_pos (by rw [Az]; rfl), Ah1, Anb]
   refine Eq.trans (congrArg (fun o => Option.bind o _) hg) ?_
   rw [Aa]
   by_cases h3 : N < a + 48 + 32
   ·rw [if_pos h3, if_pos h3]; rfl
   ·rw [if_neg h3, if_neg h3]
    simp only
    have z : (GI.toZ (k : Int)).toNat = k := rfl
    have hv := Bgi p (a + 48) (n := 32) (by omega)
    rw [if_neg (by rw [Aj]; simp), if_neg (by rw [Ae]; simp), Anc, Cm (by rw [Dq]; simp), Aa, Aa, z, As0 (by omega), Bra]
    have e : (decide ((48 : UInt32).toNat ≤ (Cg (UInt32.ofNat (Bz p (a + 48) 32)) k).toNat)) = decide (¬ Bz p (a + 48) 32 / 2 ^ k < 48) := by
     rw [Al1, Amv hv]; simp
    rw [e]
    by_cases h4 : Bz p (a + 48) 32 / 2 ^ k < 48
    ·rw [if_pos (by simp [h4]), if_pos h4]
    ·rw [if_neg (by simp; omega), if_neg h4, Ah (by omega) (by omega)]; rfl
  ·rw [Bqu h1 h2, rcS, if_neg ha, if_neg h1, if_neg h2]; rfl
theorem Ax9 (k : Nat) (hk : k ≤ 63) : ∀ (j i q : Nat), i + j = k → j < q → Gh (k : Int) q (UInt64.ofNat (2 ^ i)) (i : Int) = some (UInt64.ofNat (2 ^ k))
 | 0, i, q + 1, hi, _ => by
  rw [Gh, Mw, if_neg (by rw [Ae]; simp; omega), show i = k by omega]; rfl
 | j + 1, i, q + 1, hi, hq => by
  have e : Bp (UInt64.ofNat (2 ^ i)) (2 : UInt64) = UInt64.ofNat (2 ^ (i + 1)) := by
   rw [Afr, Nat.pow_succ, UInt64.ofNat_mul]; rfl
  rw [Gh, Mw, if_pos (by rw [Ae]; simp; omega), Ah (by omega) (by omega), e]
  exact Ax9 k hk j (i + 1) q (by omega) (by omega)
theorem Agc (k : Nat) (hk : k ≤ 63) : Dm (k : Int) = some (UInt64.ofNat (2 ^ k)) :=
 Ax9 k hk k 0 Ay (by omega) (by have := Aq; omega)
theorem Aj6 {k : Nat} (hk : k ≤ 63) : (UInt64.ofNat (2 ^ k)).toNat = 2 ^ k := by
 have hp : 2 ^ k ≤ 2 ^ 63 := Nat.pow_le_pow_right (by omega) hk
 rw [UInt64.toNat_ofNat', Nat.mod_eq_of_lt (by omega)]
theorem Bs5 (v : UInt32) (k : Nat) (hk : k ≤ 24) : Wk v (k : Int) = some ((min 48 (v.toNat / 2 ^ k) : Nat) : Int) := by
 have hpos : 0 < 2 ^ k := Nat.pow_pos (by omega)
 have hv := v.toNat_lt
 rw [Wk, Agc k (by omega), Aa, Cm (by rw [Ahz]; simp only [bne_iff_ne, ne_eq, ← UInt64.toNat_inj, Aj6 (show k ≤ 63 by omega)]; simp), Aa]
 have e : (Cn (Ad v : UInt64) (UInt64.ofNat (2 ^ k))).toNat = v.toNat / 2 ^ k := by
  rw [Atq, UInt64.toNat_div, Ik, Aj6 (by omega), UInt64.toNat_ofNat', Nat.mod_eq_of_lt (by omega)]
 have hle : v.toNat / 2 ^ k ≤ v.toNat := Nat.div_le_self _ _
 have e2 : Fv (48 : UInt64) (Cn (Ad v : UInt64) (UInt64.ofNat (2 ^ k))) = UInt64.ofNat (min 48 (v.toNat / 2 ^ k)) := by
  apply UInt64.toNat_inj.1
  rw [UInt64.toNat_ofNat', Nat.mod_eq_of_lt (by omega)]
  show (if _ then _ else _ : UInt64).toNat = _
  rw [show (GI.toZ (Cn (Ad v : UInt64) (UInt64.ofNat (2 ^ k)))) = ((v.toNat / 2 ^ k : Nat) : Int) by rw [Is, e], show GI.toZ (48 : UInt64) = 48 from rfl]
  split
  ·rw [e]; omega
  ·show 48 = _; omega
 rw [e2, Ava (by rw [UInt64.toNat_ofNat', Nat.mod_eq_of_lt] <;> omega), UInt64.toNat_ofNat', Nat.mod_eq_of_lt (by omega)]
theorem Bp1 {p : List UInt8} {N : Nat} (h : okB p N) (a k : Nat) (hk : k ≤ 24) : Yo p (N : Int) (a : Int) (k : Int) = some (rcS p N a k) := by
 obtain ⟨hN, hl, hz⟩ := h
 have h : okB p N := ⟨hN, hl, hz⟩
 rw [Yo, Zp]
 by_cases ha : N ≤ a
 ·rw [if_pos (by rw [Dq]; simp; omega), rcS, if_pos ha]
 have hle := Akn p (min 48 (N - a)) a
 rw [if_neg (by rw [Dq]; simp; omega), Bpw h a (by omega), Aa, unR]
 by_cases h1 : Fw p a (min 48 (N - a)) < min 48 (N - a)
 ·have hS : rcS p N a k = if N < a + Fw p a (min 48 (N - a)) + 1 + k then (0, 0, 24) else (UInt32.ofNat (Fw p a (min 48 (N - a)) * 2 ^ k + Bz p (a + Fw p a (min 48 (N - a)) + 1) k), ((a + Fw p a (min 48 (N - a)) + 1 + k : Nat) : Int), 0) := by rw [rcS, if_neg ha, if_pos h1]
  rw [Bqq h1, hS]
  generalize Fw p a (min 48 (N - a)) = q at *
  rw [if_pos rfl]
  simp only
  rw [if_neg (by rw [Az]; simp; omega), Qu, Zf, Bt (by omega) (by omega)]
  by_cases h2 : N < a + q + 1 + k
  ·rw [if_pos (by simp [Ae]; omega), if_pos h2]
  ·have hp : 2 ^ k ≤ 2 ^ 24 := Nat.pow_le_pow_right (by omega) hk
   have hm : q * 2 ^ k ≤ 47 * 2 ^ 24 := Nat.mul_le_mul (by omega) hp
   have hv := Tp p k (a + q + 1)
   have e : (Ad (Af (Bp (Ad (q : Int) : UInt64) (UInt64.ofNat (2 ^ k))) (Xk p (a + q + 1) k)) : UInt32) = UInt32.ofNat (q * 2 ^ k + Bz p (a + q + 1) k) := by
    have e1 : Af (Bp (Ad (q : Int) : UInt64) (UInt64.ofNat (2 ^ k))) (Xk p (a + q + 1) k) = UInt64.ofNat (q * 2 ^ k + Bz p (a + q + 1) k) := by
     rw [Agd, Afr, Abb, Xk, UInt64.ofNat_add, UInt64.ofNat_mul]
    rw [e1]
    have e2 : ∀ x : UInt64, (Ad x : UInt32) = UInt32.ofNat x.toNat := fun x => by simp only [Ad, Is, Dw]
    rw [e2, UInt64.toNat_ofNat', Nat.mod_eq_of_lt (by omega)]
   rw [if_neg (by simp [Ae]; omega), if_neg h2, Ar3 p _ _ k (by omega) (by omega), Aa, if_pos (by rw [Ae]; simp; omega), Agc k (by omega), Aa, e, Ah (by omega) (by omega)]; rfl
 ·by_cases h2 : Fw p a (min 48 (N - a)) = 48
  ·have hS : rcS p N a k = if N < a + 48 + 32 then (0, 0, 24) else if Bz p (a + 48) 32 / 2 ^ k < 48 then (0, 0, 12) else (UInt32.ofNat (Bz p (a + 48) 32), ((a + 48 + 32 : Nat) : Int), 0) := by rw [rcS, if_neg ha, if_neg h1, if_pos h2]
   rw [Bn6 h1 h2, hS, if_pos rfl]
   simp only
   rw [if_pos (by rw [Az]; rfl), Qu, Zf, Bt (by omega) (by omega)]
   by_cases h3 : N < a + 48 + 32
   ·rw [if_pos (by simp [Ae]; omega), if_pos h3]
   ·have hg := Ar3 p (N : Int) (a + 48) 32 (by omega) (by omega)
    have hv := Bgi p (a + 48) (n := 32) (by omega)
    rw [if_neg (by simp [Ae]; omega), if_neg h3]
    refine Eq.trans (congrArg (fun o => Option.bind o _) hg) ?_
    rw [Aa, if_neg (by rw [Ae]; simp), As0 (by omega), Bs5 _ k hk, Aa, Amv hv]
    by_cases h4 : Bz p (a + 48) 32 / 2 ^ k < 48
    ·rw [if_pos (by rw [Ae]; simp; omega), if_pos h4]
    ·rw [if_neg (by rw [Ae]; simp; omega), if_neg h4, Ah (by omega) (by omega)]; rfl
  ·rw [Bqu h1 h2, rcS, if_neg ha, if_neg h1, if_neg h2]
   have e : (if ((0 : Int), (0 : Int), (24 : Int)).2.2 = 0 then (((0 : Int), (0 : Int), (24 : Int)).1, ((0 : Int), (0 : Int), (24 : Int)).2.1) else ((-1 : Int), (0 : Int))) = (-1, 0) := by decide
   rw [e]; rfl
theorem Buh {p : List UInt8} {N a k : Nat} {v : UInt32} {n : Int} (h : rcS p N a k = (v, n, 0)) : (a : Int) < n ∧ n ≤ N := by
 unfold rcS at h
 split at h
 ·simp at h
 split at h
 ·split at h
  ·simp at h
  ·simp only [Prod.mk.injEq] at h; omega
 ·split at h
  ·split at h
   ·simp at h
   ·split at h
    ·simp at h
    ·simp only [Prod.mk.injEq] at h; omega
  ·simp at h
end Go.Pl
set_option linter.unusedVariables false
set_option linter.unusedSimpArgs false
namespace Go.Pl
open Go Go.Lv
def okD (k l : Nat) (s t : UInt64) : Prop := k ≤ 24 ∧ l ≤ 24 ∧ s.toNat ≤ 68719476735 ∧ t.toNat ≤ 68719476735
theorem Bek (a b : UInt64) (h : a.toNat ≤ b.toNat) : Fv a b = a := by
 show (if _ then _ else _) = _
 rw [Is, Is, if_neg (by omega)]
theorem At5 (a : UInt64) : geq a a = true := by rw [Aws]; simp
theorem Bu1 {k l : Nat} {s t : UInt64} (h : okD k l s t) : Am3 (k : Int) (l : Int) s t = some 0 := by
 obtain ⟨h1, h2, h3, h4⟩ := h
 have e1 : Fv (Arb (k : Int) 0) 24 = (k : Int) := by rw [Ajz, Bh6]; omega
 have e2 : Fv (Arb (l : Int) 0) 24 = (l : Int) := by rw [Ajz, Bh6]; omega
 have e3 : Fv s (68719476735 : UInt64) = s := Bek _ _ (by simpa using h3)
 have e4 : Fv t (68719476735 : UInt64) = t := Bek _ _ (by simpa using h4)
 have e5 : ∀ a : Int, geq a a = true := fun a => by rw [Az]; simp
 rw [Am3, Ae9, Alj, Afc, Akz, Arx, e1, e2, e3, e4, e5, e5, At5, At5]; rfl
def Ach (s n : UInt64) : UInt64 := s + n - s / 16
def kS (k : Nat) (s : UInt64) : Nat := if 0 < k ∧ s.toNat < 2 ^ (k + 4) then k - 1 else if k < 24 ∧ 2 ^ (k + 5) < s.toNat then k + 1 else k
theorem Bt7 {k : Nat} (h : k ≤ 24) (s : UInt64) : kS k s ≤ 24 := by
 unfold kS
 by_cases h1 : 0 < k ∧ s.toNat < 2 ^ (k + 4)
 ·rw [if_pos h1]; omega
 ·rw [if_neg h1]; split <;> omega
theorem Bk0 {k : Nat} {s : UInt64} (h : ¬ (0 < k ∧ s.toNat < 2 ^ (k + 4))) : (if k < 24 ∧ 2 ^ (k + 5) < s.toNat then ((k + 1 : Nat) : Int) else (k : Int)) = ((kS k s : Nat) : Int) := by
 rw [kS, if_neg h]; split <;> rfl
theorem Bki {s n : UInt64} (h : s.toNat ≤ 68719476735) (hn : n.toNat ≤ 4294967295) : (Ach s n).toNat ≤ 68719476735 := by
 have h1 := s.toNat_lt
 have e : (s + n).toNat = s.toNat + n.toNat := by rw [UInt64.toNat_add]; omega
 have e2 : (s / 16).toNat = s.toNat / 16 := by rw [UInt64.toNat_div]; rfl
 rw [Ach, UInt64.toNat_sub_of_le _ _ (by rw [UInt64.le_iff_toNat_le, e, e2]; omega), e, e2]; omega
theorem Azg (s n : UInt64) : Af s (Ao n (Cg s (GI.toZ (4 : UInt64)).toNat)) = Ach s n := by
 have e : Cg s (GI.toZ (4 : UInt64)).toNat = s / 16 := by
  apply UInt64.toNat_inj.1
  rw [Af2, UInt64.toNat_div]; rfl
 rw [e, Agd, Ayr, Ach, UInt64.sub_eq_add_neg, UInt64.sub_eq_add_neg, UInt64.add_assoc]
theorem Bj4 (s n : UInt64) : Ao (Af s n) (Cn s (16 : UInt64)) = Ach s n := by rw [Agd, Ayr, Atq, Ach]
theorem Bwu {k : Nat} (h : k ≤ 24) : (Fu (16 : UInt64) k).toNat = 2 ^ (k + 4) := by
 have hp : 2 ^ k ≤ 2 ^ 24 := Nat.pow_le_pow_right (by omega) h
 rw [Alp, Nat.pow_add]
 show 16 * 2 ^ k % _ = 2 ^ k * 16
 rw [Nat.mod_eq_of_lt (by omega), Nat.mul_comm]
theorem Bvv {k : Nat} (h : k ≤ 24) : (Fu (32 : UInt64) k).toNat = 2 ^ (k + 5) := by
 have hp : 2 ^ k ≤ 2 ^ 24 := Nat.pow_le_pow_right (by omega) h
 rw [Alp, Nat.pow_add]
 show 32 * 2 ^ k % _ = 2 ^ k * 32
 rw [Nat.mod_eq_of_lt (by omega), Nat.mul_comm]
theorem Btv {k : Nat} {s : UInt64} (h : 0 < k) (h2 : s.toNat < 2 ^ (k + 4)) : kS k s = k - 1 := by rw [kS, if_pos ⟨h, h2⟩]
theorem Bt4 {k : Nat} {s : UInt64} (h : ¬ (0 < k ∧ s.toNat < 2 ^ (k + 4))) (h2 : k < 24) (h3 : 2 ^ (k + 5) < s.toNat) : kS k s = k + 1 := by rw [kS, if_neg h, if_pos ⟨h2, h3⟩]
theorem Bkb {k : Nat} {s : UInt64} (h : ¬ (0 < k ∧ s.toNat < 2 ^ (k + 4))) (h2 : ¬ (k < 24 ∧ 2 ^ (k + 5) < s.toNat)) : kS k s = k := by rw [kS, if_neg h, if_neg h2]
theorem Bt8 {α : Type} (k : Nat) (hk : k ≤ 24) (s : UInt64) (f : Int → Option α) :
  (if (Gf (k : Int) (0 : Int)) = true then (
   Option.bind (Wq (Ud (k : Int) (0 : Int))) fun _ =>
   if (Ci s (Fu (16 : UInt64) (GI.toZ (k : Int)).toNat)) = true then f (Ao (k : Int) (1 : Int))
   else (if (Ci (k : Int) (24 : Int)) = true then (
    Option.bind (Wq (Ud (k : Int) (0 : Int))) fun _ =>
    if (Gf s (Fu (32 : UInt64) (GI.toZ (k : Int)).toNat)) = true then f (Af (k : Int) (1 : Int)) else f (k : Int))
    else f (k : Int)))
  else (if (Ci (k : Int) (24 : Int)) = true then (
    Option.bind (Wq (Ud (k : Int) (0 : Int))) fun _ =>
    if (Gf s (Fu (32 : UInt64) (GI.toZ (k : Int)).toNat)) = true then f (Af (k : Int) (1 : Int)) else f (k : Int))
    else f (k : Int))) = f ((kS k s : Nat) : Int) := by
 have z : (GI.toZ (k : Int)).toNat = k := rfl
 rw [z, Cm (by rw [Dq]; simp)]
 simp only [Aa]
 rw [Awm, Akb, Bwu hk, Bvv hk]
 by_cases h0 : 0 < k
 ·rw [if_pos (by rw [As]; simp; omega)]
  by_cases h1 : s.toNat < 2 ^ (k + 4)
  ·rw [if_pos (by simp [h1]), Btv h0 h1, Bt (by omega) (by omega)]; congr 1; omega
  ·rw [if_neg (by simp; omega)]
   by_cases h2 : k < 24
   ·rw [if_pos (by rw [Ae]; simp; omega)]
    by_cases h3 : 2 ^ (k + 5) < s.toNat
    ·rw [if_pos (by simp [h3]), Bt4 (fun h => h1 h.2) h2 h3, Ah (by omega) (by omega)]; rfl
    ·rw [if_neg (by simp; omega), Bkb (fun h => h1 h.2) (fun h => h3 h.2)]
   ·rw [if_neg (by rw [Ae]; simp; omega), Bkb (fun h => h1 h.2) (fun h => h2 h.1)]
 ·rw [if_neg (by rw [As]; simp; omega)]
  by_cases h2 : k < 24
  ·rw [if_pos (by rw [Ae]; simp; omega)]
   by_cases h3 : 2 ^ (k + 5) < s.toNat
   ·rw [if_pos (by simp [h3]), Bt4 (fun h => h0 h.1) h2 h3, Ah (by omega) (by omega)]; rfl
   ·rw [if_neg (by simp; omega), Bkb (fun h => h0 h.1) (fun h => h3 h.2)]
  ·rw [if_neg (by rw [Ae]; simp; omega), Bkb (fun h => h0 h.1) (fun h => h2 h.1)]
theorem Bjn (k : Nat) (hk : k ≤ 24) (s n : UInt64) : Hs (k : Int) s n = some (((kS k (Ach s n) : Nat) : Int), Ach s n) := by
 have g1 : Af (k : Int) 4 = ((k + 4 : Nat) : Int) := by rw [Ah (by omega) (by omega)]; omega
 have g2 : Af (k : Int) 5 = ((k + 5 : Nat) : Int) := by rw [Ah (by omega) (by omega)]; omega
 have hp : Om (k : Int) s n = some (if k < 24 ∧ 2 ^ (k + 5) < (Ach s n).toNat then ((k + 1 : Nat) : Int) else (k : Int), Ach s n) := by
  rw [Om, Agf, g2, Agc _ (by omega), Aa, Bj4, Akb, Aj6 (by omega)]
  by_cases h2 : k < 24
  ·rw [if_pos (by rw [Ae]; simp; omega)]
   by_cases h3 : 2 ^ (k + 5) < (Ach s n).toNat
   ·rw [if_pos (by simp [h3]), if_pos ⟨h2, h3⟩, Ah (by omega) (by omega)]; rfl
   ·rw [if_neg (by simp; omega), if_neg (fun h => h3 h.2)]
  ·rw [if_neg (by rw [Ae]; simp; omega), if_neg (fun h => h2 h.1)]
 rw [Hs, Xt, g1, Agc _ (by omega), Aa, Bj4, Awm, Aj6 (by omega), hp]
 by_cases h0 : 0 < k
 ·rw [if_pos (by rw [As]; simp; omega)]
  by_cases h1 : (Ach s n).toNat < 2 ^ (k + 4)
  ·rw [if_pos (by simp [h1]), Btv h0 h1, Bt (by omega) (by omega)]; congr 2; omega
  ·rw [if_neg (by simp; omega), Bk0 (fun h => h1 h.2)]
 ·rw [if_neg (by rw [As]; simp; omega), Bk0 (fun h => h0 h.1)]
def n64 (v : UInt32) : UInt64 := UInt64.ofNat v.toNat
theorem Bot (v : UInt32) : (n64 v).toNat ≤ 4294967295 := by have := v.toNat_lt; rw [n64, UInt64.toNat_ofNat', Nat.mod_eq_of_lt (by omega)]; omega
def Avj (k : Nat) (v : UInt32) : UInt32 := UInt32.ofNat (v.toNat - 2 ^ k)
def lK (l : Nat) (t : UInt64) (k : Nat) (v : UInt32) : Nat := if v.toNat < 2 ^ k then l else kS l (Ach t (n64 (Avj k v)))
def lT (t : UInt64) (k : Nat) (v : UInt32) : UInt64 := if v.toNat < 2 ^ k then t else Ach t (n64 (Avj k v))
theorem Bn8 {k l : Nat} {s t : UInt64} (h : okD k l s t) (v : UInt32) : okD (kS k (Ach s (n64 v))) (lK l t k v) (Ach s (n64 v)) (lT t k v) := by
 obtain ⟨h1, h2, h3, h4⟩ := h
 refine ⟨Bt7 h1 _, ?_, Bki h3 (Bot v), ?_⟩
 ·unfold lK; split; · exact h2
  exact Bt7 h2 _
 ·unfold lT; split; · exact h4
  exact Bki h4 (Bot _)
theorem Buz (k l : Nat) (s t : UInt64) (hk : k ≤ 24) (v : UInt32) : Qw (k : Int) (l : Int) s t v = some (decide (v.toNat < 2 ^ k)) := by
 have := v.toNat_lt
 rw [Qw, Agc k (by omega), Aa, Awm, Aj6 (by omega), Ik, UInt64.toNat_ofNat', Nat.mod_eq_of_lt (by omega)]
theorem left_eq (k l : Nat) (s t : UInt64) (hk : k ≤ 24) (v : UInt32) (h : ¬ v.toNat < 2 ^ k) : Kk (k : Int) (l : Int) s t v = some (Avj k v) := by
 have := v.toNat_lt
 have e2 : ∀ x : UInt64, (Ad x : UInt32) = UInt32.ofNat x.toNat := fun x => by simp only [Ad, Is, Dw]
 have e3 : (UInt64.ofNat v.toNat).toNat = v.toNat := by rw [UInt64.toNat_ofNat', Nat.mod_eq_of_lt (by omega)]
 rw [Kk, Agc k (by omega), Aa, e2, Ayr, Ik, UInt64.toNat_sub_of_le _ _ (by rw [UInt64.le_iff_toNat_le, Aj6 (by omega), e3]; omega), Aj6 (by omega), e3, Avj]
theorem Bll {k l : Nat} {s t : UInt64} (h : okD k l s t) (v : UInt32) : Qp (k : Int) (l : Int) s t v = some (((kS k (Ach s (n64 v)) : Nat) : Int), ((lK l t k v : Nat) : Int), Ach s (n64 v), lT t k v) := by
 obtain ⟨h1, h2, h3, h4⟩ := h
 have hp : ∀ (r1 : Int) (r2 : UInt64), Lt v (k : Int) (l : Int) s t r1 r2 = some (((kS k (Ach s (n64 v)) : Nat) : Int), r1, Ach s (n64 v), r2) := by
  intro r1 r2
  rw [Lt, Adk, Ik, Bjn k h1, Aa]; rfl
 rw [Qp, Lr, Buz k l s t h1, Aa]
 by_cases hv : v.toNat < 2 ^ k
 ·rw [if_neg (by simp [hv]), hp, lK, if_pos hv, lT, if_pos hv]
 ·rw [if_pos (by simp; omega), left_eq k l s t h1 v hv, Aa, Ik, Bjn l h2, Aa]
  simp only
  rw [hp, lK, if_neg hv, lT, if_neg hv]; rfl
theorem Bon (k l : Nat) (s t : UInt64) (hk : k ≤ 24) (v : UInt32) : Am7 (k : Int) (l : Int) s t v = some (if v.toNat < 2 ^ k then (0, v) else (1, Avj k v)) := by
 have hp : 2 ^ k ≤ 2 ^ 24 := Nat.pow_le_pow_right (by omega) hk
 have hpos : 0 < 2 ^ k := Nat.pow_pos (by omega)
 have hl := v.toNat_lt
 have z : (GI.toZ (k : Int)).toNat = k := rfl
 have e1 : geq (Cg v k) (0 : UInt32) = decide (v.toNat < 2 ^ k) := by
  rw [Bd4, Bool.eq_iff_iff]
  simp only [beq_iff_eq, ← UInt32.toNat_inj, Al1, decide_eq_true_eq]
  show _ / _ = 0 ↔ _
  rw [Nat.div_eq_zero_iff]; omega
 have e2 : ¬ v.toNat < 2 ^ k → Ao v (Fu (1 : UInt32) k) = Avj k v := by
  intro h
  have e3 : (Fu (1 : UInt32) k).toNat = 2 ^ k := by rw [Az7]; show 1 * 2 ^ k % _ = _; rw [Nat.mod_eq_of_lt (by omega), Nat.one_mul]
  apply UInt32.toNat_inj.1
  rw [Bez, UInt32.toNat_sub_of_le _ _ (by rw [UInt32.le_iff_toNat_le, e3]; omega), e3, Avj, Amv (by omega)]
 rw [Am7, Cm (by rw [Dq]; simp), Aa, Aa, z, e1]
 by_cases h : v.toNat < 2 ^ k
 ·rw [if_pos (by simp [h]), if_pos h]
 ·rw [if_neg (by simp; omega), if_neg h, e2 h]
abbrev Rd := UInt32 × Int × Int × Int × UInt64 × UInt64 × Int
theorem Azr {k l : Nat} {s t : UInt64} (h : okD k l s t) (v : UInt32) (r : Int) : Ah4 (k : Int) (l : Int) s t v r = some (v, r, ((kS k (Ach s (n64 v)) : Nat) : Int), ((lK l t k v : Nat) : Int), Ach s (n64 v), lT t k v, 0) := by
 obtain ⟨h1, h2, h3, h4⟩ := h
 have hp : ∀ (x : Int) (y : UInt64), Ac3 v r (k : Int) s x y = some (v, r, ((kS k (Ach s (n64 v)) : Nat) : Int), x, Ach s (n64 v), y, 0) := by
  intro x y
  rw [Ac3, Anh, Ik, Azg, Bt8 k h1]
  rw [Anf, Am6, Alk, Ark, Ik, Azg]; rfl
 rw [Ah4, Anj, Bon k l s t h1, Aa]
 by_cases hv : v.toNat < 2 ^ k
 ·rw [if_pos hv]
  simp only
  rw [if_neg (by rw [Az]; simp), hp, lK, if_pos hv, lT, if_pos hv]
 ·rw [if_neg hv]
  simp only
  rw [if_pos (by rw [Az]; rfl), Ik, Azg, Bt8 l h2 _ (fun x => Ac3 v r (k : Int) s x (Ach t (UInt64.ofNat (Avj k v).toNat))), hp, lK, if_neg hv, lT, if_neg hv]; rfl
def dgS (p : List UInt8) (N a k l : Nat) : UInt32 × Int × Int :=
 if N ≤ a then (0, 0, 24) else
 if Jz p a = 0 then (if N < a + 1 + k then (0, 0, 24) else (UInt32.ofNat (Bz p (a + 1) k), ((a + 1 + k : Nat) : Int), 0)) else
 if (rcS p N (a + 1) l).2.2 ≠ 0 then (0, 0, (rcS p N (a + 1) l).2.2) else
 if 4294967295 < (rcS p N (a + 1) l).1.toNat + 2 ^ k then (0, 0, 12) else (UInt32.ofNat ((rcS p N (a + 1) l).1.toNat + 2 ^ k), (rcS p N (a + 1) l).2.1, 0)
theorem Bvz {p : List UInt8} {N a k l : Nat} (h : (dgS p N a k l).2.2 = 0) : (a : Int) < (dgS p N a k l).2.1 ∧ (dgS p N a k l).2.1 ≤ N := by
 revert h
 unfold dgS
 split
 ·simp
 split
 ·split
  ·simp
  ·simp only; omega
 ·split
  ·intro h; contradiction
  ·rename_i h1
   split
   ·simp
   ·intro _
    have := Buh (p := p) (N := N) (a := a + 1) (k := l) (v := (rcS p N (a + 1) l).1) (n := (rcS p N (a + 1) l).2.1) (by
     have e : (rcS p N (a + 1) l).2.2 = 0 := by simpa using h1
     rw [← e])
    simp only; omega
theorem Brn {p : List UInt8} {N : Nat} (h : okB p N) (a : Nat) {k l : Nat} {s t : UInt64} (hd : okD k l s t) : Aev p (N : Int) (a : Int) (k : Int) (l : Int) s t =
  some (if (dgS p N a k l).2.2 ≠ 0 then (0, 0, 0, 0, 0, 0, (dgS p N a k l).2.2) else ((dgS p N a k l).1, (dgS p N a k l).2.1, ((kS k (Ach s (n64 (dgS p N a k l).1)) : Nat) : Int), ((lK l t k (dgS p N a k l).1 : Nat) : Int), Ach s (n64 (dgS p N a k l).1), lT t k (dgS p N a k l).1, 0)) := by
 obtain ⟨h1, h2, h3, h4⟩ := hd
 have hd : okD k l s t := ⟨h1, h2, h3, h4⟩
 have hN := h.1
 have hg := Auz h a 1 (by omega)
 have hb := Zy p a
 rw [Aev, Anw, Aid h, Aa, if_neg (by rw [Aj]; simp), Bu1 hd, Aa, if_neg (by rw [Aj]; simp), Ano, Amw]
 refine Eq.trans (congrArg (fun o => Option.bind o _) hg) ?_
 rw [Aa]
 by_cases ha : N ≤ a
 ·have hS : dgS p N a k l = (0, 0, 24) := by rw [dgS, if_pos ha]
  rw [if_pos (by omega), hS]; rfl
 rw [if_neg (by omega)]
 simp only
 have e0 : geq (Xk p a 1) (0 : UInt64) = decide (Jz p a = 0) := by
  rw [Aws, Bool.eq_iff_iff]
  simp only [beq_iff_eq, ← UInt64.toNat_inj, decide_eq_true_eq, Acb p a 1 (by omega), Bgo]; rfl
 have e1 : Af (a : Int) 1 = ((a + 1 : Nat) : Int) := by rw [Ah (by omega) (by omega)]; omega
 rw [if_neg (by rw [Aj]; simp), e0, e1]
 by_cases hz : Jz p a = 0
 ·rw [if_pos (by simp [hz]), Auz h (a + 1) k (by omega), Aa]
  by_cases h5 : N < a + 1 + k
  ·have hS : dgS p N a k l = (0, 0, 24) := by rw [dgS, if_neg ha, if_pos hz, if_pos h5]
   rw [if_pos h5, hS]; rfl
  ·have hS : dgS p N a k l = (UInt32.ofNat (Bz p (a + 1) k), ((a + 1 + k : Nat) : Int), 0) := by rw [dgS, if_neg ha, if_pos hz, if_neg h5]
   rw [if_neg h5, hS]
   simp only
   rw [if_neg (by rw [Aj]; simp), Azr hd, As0 (by omega), Ah (by omega) (by omega)]; rfl
 ·rw [if_neg (by simp [hz]), Btr h (a + 1) l h2, Aa]
  have hp : 2 ^ k ≤ 2 ^ 24 := Nat.pow_le_pow_right (by omega) h1
  by_cases h5 : (rcS p N (a + 1) l).2.2 ≠ 0
  ·have hS : dgS p N a k l = (0, 0, (rcS p N (a + 1) l).2.2) := by rw [dgS, if_neg ha, if_neg hz, if_pos h5]
   rw [hS]
   generalize rcS p N (a + 1) l = R at *
   obtain ⟨v, n, e⟩ := R
   simp only at *
   rw [if_pos (by rw [Aj]; simpa using h5), if_pos h5]
  ·have hv := (rcS p N (a + 1) l).1.toNat_lt
   have z : (GI.toZ (k : Int)).toNat = k := rfl
   have e3 : (Fu (1 : UInt32) k).toNat = 2 ^ k := by rw [Az7]; show 1 * 2 ^ k % _ = _; rw [Nat.mod_eq_of_lt (by omega), Nat.one_mul]
   by_cases h6 : 4294967295 < (rcS p N (a + 1) l).1.toNat + 2 ^ k
   ·have hS : dgS p N a k l = (0, 0, 12) := by rw [dgS, if_neg ha, if_neg hz, if_neg h5, if_pos h6]
    rw [hS]
    generalize rcS p N (a + 1) l = R at *
    obtain ⟨v, n, e⟩ := R
    simp only at *
    rw [if_neg (by rw [Aj]; simpa using h5), Cm (by rw [Dq]; simp), Aa, z, if_pos (by rw [Bj2, Axi, UInt32.toNat_add, e3]; simp; omega), if_pos (by decide)]
   ·have hS : dgS p N a k l = (UInt32.ofNat ((rcS p N (a + 1) l).1.toNat + 2 ^ k), (rcS p N (a + 1) l).2.1, 0) := by rw [dgS, if_neg ha, if_neg hz, if_neg h5, if_neg h6]
    rw [hS]
    generalize rcS p N (a + 1) l = R at *
    obtain ⟨v, n, e⟩ := R
    simp only at *
    have e4 : Af v (Fu (1 : UInt32) k) = UInt32.ofNat (v.toNat + 2 ^ k) := by
     apply UInt32.toNat_inj.1
     rw [Axi, UInt32.toNat_add, e3, Amv (by omega), Nat.mod_eq_of_lt (by omega)]
    rw [if_neg (by rw [Aj]; simpa using h5), Cm (by rw [Dq]; simp), Aa, z, if_neg (by rw [Bj2, Axi, UInt32.toNat_add, e3]; simp; omega), e4, Azr hd]; rfl
theorem Bqz {p : List UInt8} {N : Nat} (h : okB p N) (a : Nat) (k l : Nat) (s t : UInt64) (h1 : k ≤ 24) (h2 : l ≤ 24) : Yr p (N : Int) (a : Int) (k : Int) (l : Int) s t = some (dgS p N a k l) := by
 have hN := h.1
 have hl := h.2.1
 have hb := Zy p a
 rw [Yr]
 by_cases ha : N ≤ a
 ·rw [if_pos (by rw [Dq]; simp; omega), dgS, if_pos ha]
 rw [if_neg (by rw [Dq]; simp; omega), Aut p _ a (by omega) (by omega), Aa, Bt (a := (N : Int)) (b := (a : Int)) (by omega) (by omega), Bt (by omega) (by omega)]
 have e1 : Af (a : Int) 1 = ((a + 1 : Nat) : Int) := by rw [Ah (by omega) (by omega)]; omega
 rw [e1]
 by_cases hz : Jz p a = 0
 ·rw [if_pos (by rw [Az]; simp [hz])]
  by_cases h5 : N < a + 1 + k
  ·rw [if_pos (by rw [Ae]; simp; omega), dgS, if_neg ha, if_pos hz, if_pos h5]
  ·rw [if_neg (by rw [Ae]; simp; omega), Ar3 p _ (a + 1) k (by omega) (by omega), Aa, dgS, if_neg ha, if_pos hz, if_neg h5, As0 (by omega), Ah (by omega) (by omega)]; rfl
 ·rw [if_neg (by rw [Az]; simp; omega), Bp1 h (a + 1) l h2, Aa]
  have hp : 2 ^ k ≤ 2 ^ 24 := Nat.pow_le_pow_right (by omega) h1
  have hv := (rcS p N (a + 1) l).1.toNat_lt
  have e2 : ∀ x : UInt64, (Ad x : UInt32) = UInt32.ofNat x.toNat := fun x => by simp only [Ad, Is, Dw]
  by_cases h5 : (rcS p N (a + 1) l).2.2 ≠ 0
  ·have hS : dgS p N a k l = (0, 0, (rcS p N (a + 1) l).2.2) := by rw [dgS, if_neg ha, if_neg hz, if_pos h5]
   rw [hS]
   generalize rcS p N (a + 1) l = R at *
   obtain ⟨v, n, e⟩ := R
   simp only at *
   rw [if_pos (by rw [Aj]; simpa using h5)]
  ·have hsum : ∀ v : UInt32, (Af (Ad v : UInt64) (UInt64.ofNat (2 ^ k))).toNat = v.toNat + 2 ^ k := by
    intro v
    have := v.toNat_lt
    have := Nat.pow_pos (n := k) (show 0 < 2 by omega)
    rw [Agd, UInt64.toNat_add, Ik, Aj6 (by omega), UInt64.toNat_ofNat']; omega
   by_cases h6 : 4294967295 < (rcS p N (a + 1) l).1.toNat + 2 ^ k
   ·have hS : dgS p N a k l = (0, 0, 12) := by rw [dgS, if_neg ha, if_neg hz, if_neg h5, if_pos h6]
    rw [hS]
    generalize rcS p N (a + 1) l = R at *
    obtain ⟨v, n, e⟩ := R
    simp only at *
    rw [if_neg (by rw [Aj]; simpa using h5), Agc k (by omega), Aa, if_pos (by rw [Akb, hsum]; simpa using h6)]
   ·have hS : dgS p N a k l = (UInt32.ofNat ((rcS p N (a + 1) l).1.toNat + 2 ^ k), (rcS p N (a + 1) l).2.1, 0) := by rw [dgS, if_neg ha, if_neg hz, if_neg h5, if_neg h6]
    rw [hS]
    generalize rcS p N (a + 1) l = R at *
    obtain ⟨v, n, e⟩ := R
    simp only at *
    rw [if_neg (by rw [Aj]; simpa using h5), Agc k (by omega), Aa, if_neg (by rw [Akb, hsum]; simpa using h6), e2, hsum]
end Go.Pl
set_option linter.unusedVariables false
set_option linter.unusedSimpArgs false
namespace Go.Pl
open Go Go.Lv
abbrev DuN := Nat × Nat × UInt64 × UInt64
def okN (d : DuN) : Prop := okD d.1 d.2.1 d.2.2.1 d.2.2.2
def nxt (d : DuN) (v : UInt32) : DuN := (kS d.1 (Ach d.2.2.1 (n64 v)), lK d.2.1 d.2.2.2 d.1 v, Ach d.2.2.1 (n64 v), lT d.2.2.2 d.1 v)
def Bd8 : DuN := (10, 10, 16384, 16384)
theorem Boh : okN Bd8 := ⟨by decide, by decide, by decide, by decide⟩
theorem Bu6 {d : DuN} (h : okN d) (v : UInt32) : okN (nxt d v) := Bn8 h v
abbrev DuL := Int × Int × UInt64 × UInt64 × Unit
def toI (d : DuN) : DuL := ((d.1 : Int), (d.2.1 : Int), d.2.2.1, d.2.2.2, ())
def chP (ch : Nat) (v : List UInt32) (c : Nat) : Nat → DuN
 | 0 => Bd8
 | m + 1 => if m % ch = c then nxt (chP ch v c m) (v.getD m 0) else chP ch v c m
theorem Aus (ch : Nat) (v : List UInt32) (c : Nat) : ∀ m, okN (chP ch v c m)
 | 0 => Boh
 | m + 1 => by rw [chP]; split; exact Bu6 (Aus ch v c m) _; exact Aus ch v c m
theorem Bk3 (ch : Nat) (v w : List UInt32) (c : Nat) : ∀ m, m ≤ v.length → chP ch (v ++ w) c m = chP ch v c m
 | 0, _ => rfl
 | m + 1, h => by
  have e : (v ++ w).getD m 0 = v.getD m 0 := by simp [List.getD_eq_getElem?_getD, List.getElem?_append_left (show m < v.length by omega)]
  rw [chP, chP, Bk3 ch v w c m (by omega), e]
theorem Bd1 (ch : Nat) (v : List UInt32) (c : Nat) : ∀ m, m ≤ c → c < ch → chP ch v c m = Bd8
 | 0, _, _ => rfl
 | m + 1, h, h2 => by rw [chP, if_neg (by rw [Nat.mod_eq_of_lt (by omega)]; omega), Bd1 ch v c m (by omega) h2]
theorem Bfc (ch : Nat) (v : List UInt32) (c i : Nat) (hi : i % ch = c) (hc : c < ch) : ∀ j, j < ch → chP ch v c (i + 1 + j) = chP ch v c (i + 1)
 | 0, _ => rfl
 | j + 1, h => by
  have hne : (i + 1 + j) % ch ≠ c := by
   intro e
   have h1 : (i + (1 + j)) % ch = i % ch := by rw [hi, ← e]; congr 1; omega
   have h2 : (1 + j) % ch = 0 := by
    have h3 := Nat.sub_mod_eq_zero_of_mod_eq h1
    rwa [Nat.add_sub_cancel_left] at h3
   rw [Nat.mod_eq_of_lt (by omega)] at h2; omega
  rw [show i + 1 + (j + 1) = (i + 1 + j) + 1 by omega, chP, if_neg hne, Bfc ch v c i hi hc j (by omega)]
theorem Bor (ch : Nat) (v : List UInt32) (c i : Nat) (hi : i % ch = c) (hc : c < ch) : chP ch v c (i + ch) = nxt (chP ch v c i) (v.getD i 0) := by
 have h := Bfc ch v c i hi hc (ch - 1) (by omega)
 rw [show i + 1 + (ch - 1) = i + ch by omega] at h
 rw [h, chP, if_pos hi]
theorem Ayv {l : List UInt32} {k : Nat} (h : k < l.length) : Al l (k : Int) = some (l.getD k 0) := by
 rw [Cl h]; simp [List.getD_eq_getElem?_getD, h]
theorem Azf (a b : Nat) : Lk (a : Int) (b : Int) = ((a % b : Nat) : Int) := by rw [Lk, Int.tmod_eq_emod_of_nonneg (by omega)]; omega
theorem Avv (ch : Nat) (v : List UInt32) (hch : 1 ≤ ch) (hch6 : ch ≤ 6) (hv : v.length ≤ 4000) : ∀ (j i q : Nat), i % ch = v.length % ch → i ≤ v.length → v.length - i ≤ j → j < q →
  Hv (ch : Int) v q (i : Int) ((chP ch v (v.length % ch) i).1 : Int) ((chP ch v (v.length % ch) i).2.1 : Int) (chP ch v (v.length % ch) i).2.2.1 (chP ch v (v.length % ch) i).2.2.2 =
   some (((chP ch v (v.length % ch) v.length).1 : Int), ((chP ch v (v.length % ch) v.length).2.1 : Int), (chP ch v (v.length % ch) v.length).2.2.1, (chP ch v (v.length % ch) v.length).2.2.2)
 | j, i, q + 1, hi, hl, hj, hq => by
  have hc : v.length % ch < ch := Nat.mod_lt _ (by omega)
  rw [Hv, Te]
  by_cases h : i < v.length
  ·have h1 := Bll (Aus ch v (v.length % ch) i) (v.getD i 0)
   rw [if_pos (by rw [Ae, Ac]; simp; omega), Ayv h, Aa, h1, Aa]
   have hle : i + ch ≤ v.length := by
    have h2 := Nat.div_add_mod i ch
    have h3 := Nat.div_add_mod v.length ch
    rw [hi] at h2
    have h4 : ch * (i / ch) < ch * (v.length / ch) := by omega
    have h5 := Nat.lt_of_mul_lt_mul_left h4
    have h6 : ch * (i / ch + 1) ≤ ch * (v.length / ch) := Nat.mul_le_mul_left _ h5
    rw [Nat.mul_add] at h6; omega
   have ih := Avv ch v hch hch6 hv (j - ch) (i + ch) q (by rw [Nat.add_mod_right]; exact hi) hle (by omega) (by omega)
   rw [Bor ch v _ i hi hc] at ih
   simp only
   rw [Ah (by omega) (by omega)]
   exact ih
  ·rw [if_neg (by rw [Ae, Ac]; simp; omega), show i = v.length by omega]; rfl
theorem Bnh (ch : Nat) (v : List UInt32) (hch : 1 ≤ ch) (hch6 : ch ≤ 6) (hv : v.length ≤ 4000) : Le (ch : Int) v = some (((chP ch v (v.length % ch) v.length).1 : Int), ((chP ch v (v.length % ch) v.length).2.1 : Int), (chP ch v (v.length % ch) v.length).2.2.1, (chP ch v (v.length % ch) v.length).2.2.2) := by
 have hc : v.length % ch < ch := Nat.mod_lt _ (by omega)
 have hle : v.length % ch ≤ v.length := Nat.mod_le _ _
 have h := Avv ch v hch hch6 hv v.length (v.length % ch) Ay (by rw [Nat.mod_mod]) hle (by omega) (by have := Aq; omega)
 rw [Bd1 ch v _ _ (Nat.le_refl _) hc] at h
 rw [Le, Tm, Iy, Aa]
 simp only
 rw [Cm (by rw [Aj]; simp; omega), Aa, Ac, Azf]
 exact h
def now (ch : Nat) (v : List UInt32) : DuN := chP ch v (v.length % ch) v.length
def win (N a : Nat) : Nat := min 81 (N - a)
def Ls (ch : Nat) (p : List UInt8) (N a : Nat) (out : List UInt32) : UInt32 × Int × Int := dgS (Ae1 p a (win N a)) (win N a) 0 (now ch out).1 (now ch out).2.1
def Yn (ch : Nat) (p : List UInt8) (N : Nat) : Nat → Nat → List UInt32 → List UInt32 × Nat × Int
 | 0, a, out => (out, a, 0)
 | j + 1, a, out => if (Ls ch p N a out).2.2 ≠ 0 then (out, a, (Ls ch p N a out).2.2) else Yn ch p N j (a + (Ls ch p N a out).2.1.toNat) (out ++ [(Ls ch p N a out).1])
theorem Aq3 {ch : Nat} {p : List UInt8} {N a : Nat} {out : List UInt32} (h : (Ls ch p N a out).2.2 = 0) : 0 < (Ls ch p N a out).2.1 ∧ (Ls ch p N a out).2.1 ≤ win N a := by
 have := Bvz h
 exact ⟨this.1, this.2⟩
theorem Bb2 {ch : Nat} {p : List UInt8} {N a : Nat} {out : List UInt32} (h : (Ls ch p N a out).2.2 = 0) : ((a : Int) + (Ls ch p N a out).2.1) = ((a + (Ls ch p N a out).2.1.toNat : Nat) : Int) := by
 have := Aq3 h; omega
def sts (ch : Nat) (v : List UInt32) : List DuL := (List.range 6).map fun c => toI (chP ch v c v.length)
theorem Bku {ch : Nat} {v : List UInt32} {c : Nat} (h : c < 6) : Al (sts ch v) (c : Int) = some (toI (chP ch v c v.length)) := by
 rw [Cl (by simp [sts]; exact h)]; simp [sts]
theorem Brz {ch : Nat} {v : List UInt32} {c : Nat} (x : UInt32) (h : c < 6) (hc : c = v.length % ch) : Sa (sts ch v) (c : Int) (toI (nxt (chP ch v c v.length) x)) = some (sts ch (v ++ [x])) := by
 rw [Za _ (by simp [sts]; exact h)]
 congr 1
 apply List.ext_getElem (by simp [sts])
 intro i h1 h2
 rw [List.getElem_set]
 simp only [sts, List.getElem_map, List.getElem_range]
 have e : (v ++ [x]).getD v.length 0 = x := by simp
 rw [List.length_append, List.length_singleton, chP, e, Bk3 ch v [x] i v.length (Nat.le_refl _)]
 by_cases hi : c = i
 ·subst hi; rw [if_pos rfl, if_pos hc.symm]
 ·rw [if_neg hi, if_neg (by omega)]
section
variable {p : List UInt8} {N ch n : Nat}
theorem Bf1 (hp : okB p N) (h1 : 1 ≤ ch) (h6 : ch ≤ 6) (hn : n * ch ≤ 4000) : ∀ (j a q : Nat) (out : List UInt32), out.length + j = n * ch → j < q → a ≤ N →
  Mh (ch : Int) (n : Int) p (N : Int) q (a : Int) (out.length : Int) (sts ch out) out =
   some (if (Yn ch p N j a out).2.2 ≠ 0 then ([], 0, (Yn ch p N j a out).2.2) else ((Yn ch p N j a out).1, ((Yn ch p N j a out).2.1 : Int), 0))
 | j, a, q + 1, out, hj, hq, ha => by
  have hN := hp.1
  have hnn : n ≤ n * ch := Nat.le_mul_of_pos_right n (by omega)
  have em : Bp (n : Int) (ch : Int) = ((n * ch : Nat) : Int) := by rw [Ip (by rw [← Int.natCast_mul]; omega) (by rw [← Int.natCast_mul]; omega), Int.natCast_mul]
  rw [Mh, Tz, em]
  cases j with
  | zero =>
   rw [if_neg (by rw [Ae]; simp; omega)]; rfl
  | succ j =>
   have hc : out.length % ch < 6 := Nat.lt_of_lt_of_le (Nat.mod_lt _ (by omega)) h6
   have ew : Fv (Af (a : Int) 81) (N : Int) = ((a + win N a : Nat) : Int) := by rw [Ajz, Ah (by omega) (by omega)]; unfold win; omega
   have hw : a + win N a ≤ N := by unfold win; omega
   have hw2 : win N a ≤ 81 := by unfold win; omega
   have hd := Brn (Bk8 p a (win N a) (by omega)) 0 (Aus ch out (out.length % ch) out.length)
   have ecode : dgS (Ae1 p a (win N a)) (win N a) 0 (chP ch out (out.length % ch) out.length).1 (chP ch out (out.length % ch) out.length).2.1 = Ls ch p N a out := rfl
   rw [if_pos (by rw [Ae]; simp; omega), ew, Bug hp a _ hw (by omega), Aa]
   simp only
   rw [if_neg (by rw [Aj]; simp), Cm (by rw [Aj]; simp; omega), Aa, Azf, Bku hc, Aa, Aa]
   refine Eq.trans (congrArg (fun o => Option.bind o _) hd) ?_
   rw [Aa, ecode, Yn]
   by_cases he : (Ls ch p N a out).2.2 ≠ 0
   ·rw [if_pos he, if_pos he]
    simp only
    rw [Ty, Tw, if_pos (by rw [Aj]; simpa using he), if_pos he]
   ·have he0 : (Ls ch p N a out).2.2 = 0 := by simpa using he
    have hok := Aq3 he0
    have hset := Brz (ch := ch) (v := out) (Ls ch p N a out).1 hc rfl
    rw [if_neg he, if_neg he]
    simp only
    rw [Ty, Tw, if_neg (by rw [Aj]; simp), Cm (by rw [Aj]; simp; omega), Aa, Azf, Bku hc, Aa]
    refine Eq.trans (congrArg (fun o => Option.bind o _) hset) ?_
    rw [Aa, Aaq, Aik, Cc (by simp; omega), Aa, Ah (by omega) (by omega), Ah (by omega) (by omega), Bb2 he0]
    have ih := Bf1 hp h1 h6 hn j (a + (Ls ch p N a out).2.1.toNat) q (out ++ [(Ls ch p N a out).1]) (by simp; omega) (by omega) (by omega)
    rw [List.length_append, List.length_singleton] at ih
    exact ih
theorem Bj6 {p : List UInt8} (hN : N = 8 * p.length) (hN2 : N ≤ 330000) (h1 : 1 ≤ ch) (h6 : ch ≤ 6) (hn : n * ch ≤ 4000) : ∀ (j a q : Nat) (out : List UInt32), out.length + j = n * ch → j < q → a ≤ N →
  Cx (ch : Int) (n : Int) p q (a : Int) (out.length : Int) out =
   if (Yn ch p N j a out).2.2 ≠ 0 then some ((Yn ch p N j a out).1, (Yn ch p N j a out).2.2) else Mu ((Yn ch p N j a out).2.1 : Int) p (Yn ch p N j a out).1
 | j, a, q + 1, out, hj, hq, ha => by
  have hnn : n ≤ n * ch := Nat.le_mul_of_pos_right n (by omega)
  have em : Bp (n : Int) (ch : Int) = ((n * ch : Nat) : Int) := by rw [Ip (by rw [← Int.natCast_mul]; omega) (by rw [← Int.natCast_mul]; omega), Int.natCast_mul]
  have e8 : Bp (8 : Int) (Ac p) = (N : Int) := by rw [Ac, Ip (by omega) (by omega)]; omega
  rw [Cx, Vs, em]
  cases j with
  | zero =>
   rw [if_neg (by rw [Ae]; simp; omega)]; rfl
  | succ j =>
   have ew : Fv (Af (a : Int) 81) (N : Int) = ((a + win N a : Nat) : Int) := by rw [Ajz, Ah (by omega) (by omega)]; unfold win; omega
   have hw : a + win N a ≤ N := by unfold win; omega
   have hw2 : win N a ≤ 81 := by unfold win; omega
   have hpre : (Option.bind Iy fun (r_4, r_5, r_6, r_7) =>
     if (Ud (out.length : Int) (ch : Int)) = true then (
     Option.bind (Le (ch : Int) out) fun (r_8, r_9, r_10, r_11) =>
     Fy (Cx (ch : Int) (n : Int) p q) (ch : Int) (n : Int) p (a : Int) (out.length : Int) out r_8 r_9 r_10 r_11)
     else Fy (Cx (ch : Int) (n : Int) p q) (ch : Int) (n : Int) p (a : Int) (out.length : Int) out r_4 r_5 r_6 r_7) =
     Fy (Cx (ch : Int) (n : Int) p q) (ch : Int) (n : Int) p (a : Int) (out.length : Int) out ((now ch out).1 : Int) ((now ch out).2.1 : Int) (now ch out).2.2.1 (now ch out).2.2.2 := by
    rw [Iy, Aa]
    by_cases hc : ch ≤ out.length
    ·simp only
     rw [if_pos (by rw [Dq]; simp; omega), Bnh ch out h1 h6 (by omega), Aa]; rfl
    ·have e : now ch out = Bd8 := by rw [now, Nat.mod_eq_of_lt (by omega), Bd1 ch out _ _ (Nat.le_refl _) (by omega)]
     simp only
     rw [if_neg (by rw [Dq]; simp; omega), e]; rfl
   have hd := Bqz (Bk8 p a (win N a) (by omega)) 0 (now ch out).1 (now ch out).2.1 (now ch out).2.2.1 (now ch out).2.2.2 (Aus ch out _ _).1 (Aus ch out _ _).2.1
   have ecode : dgS (Ae1 p a (win N a)) (win N a) 0 (now ch out).1 (now ch out).2.1 = Ls ch p N a out := rfl
   rw [if_pos (by rw [Ae]; simp; omega), hpre, Fy, Ad7, e8, ew, Beg p (N : Int) a _ (by omega) (by omega) (by omega), Aa]
   simp only
   refine Eq.trans (congrArg (fun o => Option.bind o _) hd) ?_
   rw [Aa, ecode, Yn]
   by_cases he : (Ls ch p N a out).2.2 ≠ 0
   ·rw [if_pos he, if_pos (by rw [Aj]; simpa using he), if_pos he]
   ·have he0 : (Ls ch p N a out).2.2 = 0 := by simpa using he
    have hok := Aq3 he0
    have ih := Bj6 hN hN2 h1 h6 hn j (a + (Ls ch p N a out).2.1.toNat) q (out ++ [(Ls ch p N a out).1]) (by simp; omega) (by omega) (by omega)
    have hx := Bb2 he0
    rw [List.length_append, List.length_singleton] at ih
    rw [if_neg he]
    generalize Ls ch p N a out = R at *
    obtain ⟨v, nx, e⟩ := R
    simp only at *
    rw [if_neg (by rw [Aj]; simpa using he), Cc (by simp; omega), Aa, Ah (by omega) (by omega), Ah (by omega) (by omega), hx]
    exact ih
end
theorem Awh {ch : Nat} {p : List UInt8} {N : Nat} : ∀ (j a : Nat) (out : List UInt32), a ≤ N → (Yn ch p N j a out).2.1 ≤ N ∧ (Yn ch p N j a out).1.length ≤ out.length + j ∧ ((Yn ch p N j a out).2.2 = 0 → (Yn ch p N j a out).1.length = out.length + j)
 | 0, a, out, h => ⟨h, Nat.le_refl _, fun _ => rfl⟩
 | j + 1, a, out, h => by
  rw [Yn]
  split
  ·rename_i he
   exact ⟨h, by simp, fun e => absurd e he⟩
  ·rename_i he
   have hok := Aq3 (ch := ch) (p := p) (N := N) (a := a) (out := out) (by simpa using he)
   have hw : a + win N a ≤ N := by unfold win; omega
   have ih := Awh (ch := ch) (p := p) (N := N) j (a + (Ls ch p N a out).2.1.toNat) (out ++ [(Ls ch p N a out).1]) (by omega)
   rw [List.length_append, List.length_singleton] at ih
   exact ⟨ih.1, by omega, fun e => by have := ih.2.2 e; omega⟩
theorem Bha (ch n : Int) (b : List UInt8) (N : Int) : Tg ch n b N 0 (List.replicate 6 ((0 : Int), (0 : Int), (0 : UInt64), (0 : UInt64), ())) = Aaw ch n b N (List.replicate 6 ((10 : Int), (10 : Int), (16384 : UInt64), (16384 : UInt64), ())) := by
 have e : Ay = (Ay - 7) + 1 + 1 + 1 + 1 + 1 + 1 + 1 := by have := Aq; omega
 rw [Tg, e]
 rfl
theorem values_eq {p : List UInt8} {N ch n : Nat} (hp : okB p N) (h1 : 1 ≤ ch) (h6 : ch ≤ 6) (hn : n * ch ≤ 4000) : Ac9 (ch : Int) (n : Int) p (N : Int) =
  some (if (Yn ch p N (n * ch) 0 []).2.2 ≠ 0 then ([], 0, (Yn ch p N (n * ch) 0 []).2.2) else ((Yn ch p N (n * ch) 0 []).1, ((Yn ch p N (n * ch) 0 []).2.1 : Int), 0)) := by
 have h := Bf1 hp h1 h6 hn (n * ch) 0 Ay [] (by simp) (by have := Aq; omega) (by omega)
 rw [Ac9, Ack, Bha]
 exact h
theorem Bat (p : List UInt8) (x : List UInt32) (N : Nat) (hN : N = 8 * p.length) (hN2 : N ≤ 330000) : ∀ (j a q : Nat), a + j = N → j < q → Gb p x q (a : Int) = some (x, if Bz p a j = 0 then 0 else 12)
 | 0, a, q + 1, ha, _ => by
  have e8 : Bp (8 : Int) (Ac p) = (N : Int) := by rw [Ac, Ip (by omega) (by omega)]; omega
  rw [Gb, Mr, e8, if_neg (by rw [Ae]; simp; omega), Bz, if_pos rfl]; rfl
 | j + 1, a, q + 1, ha, hq => by
  have e8 : Bp (8 : Int) (Ac p) = (N : Int) := by rw [Ac, Ip (by omega) (by omega)]; omega
  have hb := Zy p a
  rw [Gb, Mr, e8, if_pos (by rw [Ae]; simp; omega), Aut p _ a (by omega) (by omega), Aa, Bz]
  by_cases h : Jz p a = 0
  ·rw [if_neg (by rw [Aj]; simp [h]), Ah (by omega) (by omega), h]
   have ih := Bat p x N hN hN2 j (a + 1) q (by omega) (by omega)
   rw [show ((a : Int) + 1) = ((a + 1 : Nat) : Int) by omega, ih]
   congr 2
   by_cases hv : Bz p (a + 1) j = 0
   ·rw [if_pos hv, if_pos (by omega)]
   ·rw [if_neg hv, if_neg (by omega)]
  ·rw [if_pos (by rw [Aj]; simp; omega), if_neg (by omega)]
theorem Bkv {p : List UInt8} {N ch n : Nat} (hN : N = 8 * p.length) (hN2 : N ≤ 330000) (h1 : 1 ≤ ch) (h6 : ch ≤ 6) (hn : n * ch ≤ 4000) : Wg (ch : Int) (n : Int) p =
  some (if (Yn ch p N (n * ch) 0 []).2.2 ≠ 0 then ((Yn ch p N (n * ch) 0 []).1, (Yn ch p N (n * ch) 0 []).2.2) else
   ((Yn ch p N (n * ch) 0 []).1, if 7 < N - (Yn ch p N (n * ch) 0 []).2.1 ∨ Bz p (Yn ch p N (n * ch) 0 []).2.1 (N - (Yn ch p N (n * ch) 0 []).2.1) ≠ 0 then 12 else 0)) := by
 have h := Bj6 hN hN2 h1 h6 hn (n * ch) 0 Ay [] (by simp) (by have := Aq; omega) (by omega)
 have hat := (Awh (ch := ch) (p := p) (N := N) (n * ch) 0 [] (by omega)).1
 have e8 : Bp (8 : Int) (Ac p) = (N : Int) := by rw [Ac, Ip (by omega) (by omega)]; omega
 rw [Wg, Xv]
 refine Eq.trans h ?_
 generalize Yn ch p N (n * ch) 0 [] = V at *
 obtain ⟨v, a, e⟩ := V
 simp only at *
 by_cases he : e ≠ 0
 ·rw [if_pos he, if_pos he]
 ·rw [if_neg he, if_neg he, Mu, Ux, e8, Bt (by omega) (by omega)]
  by_cases h7 : 7 < N - a
  ·rw [if_pos (by rw [As]; simp; omega), if_pos (.inl h7)]
  ·rw [if_neg (by rw [As]; simp; omega), Vl, Bat p v N hN hN2 (N - a) a Ay (by omega) (by have := Aq; omega)]
   by_cases hv : Bz p a (N - a) = 0
   ·rw [if_pos hv, if_neg (by omega)]
   ·rw [if_neg hv, if_pos (.inr hv)]
end Go.Pl
set_option linter.unusedVariables false
set_option linter.unusedSimpArgs false
namespace Go.Pl
open Go Go.Lv
theorem Bdn (n : Int) : (GI.ofZ n : Int32) = Int32.ofInt n := rfl
theorem Akd (a : Int32) : GI.toZ a = a.toInt := rfl
theorem Amn (a b : Int32) : Af a b = a + b := by
 rw [Af, Akd, Akd, Bdn, Int32.ofInt_add, Int32.ofInt_toInt, Int32.ofInt_toInt]
theorem Ayb (a b : Int32) : Ao a b = a - b := by
 rw [Ao, Akd, Akd, Bdn, Int32.ofInt_sub, Int32.ofInt_toInt, Int32.ofInt_toInt]
theorem Bkf (a b : Int32) : geq a b = (a == b) := by
 rw [geq, Akd, Akd, Bool.eq_iff_iff]; simp [Int32.toInt_inj]
def sel (p : Nat → Bool) (a b : List Int32) : List Int32 := (List.range a.length).map fun k => if p k = true then a.getD k 0 else b.getD k 0
section
variable {p q : Nat → Bool} {a b : List Int32}
theorem Ank : (sel p a b).length = a.length := by simp [sel]
theorem Mx {k : Nat} (h : k < a.length) : a.getD k 0 = a[k] := by simp [List.getD_eq_getElem?_getD, h]
theorem Abq {k : Nat} (h : k < (sel p a b).length) : (sel p a b)[k] = if p k = true then a.getD k 0 else b.getD k 0 := by simp [sel]
theorem Aj9 {k : Nat} (h : k < a.length) : Al (sel p a b) (k : Int) = some (if p k = true then a.getD k 0 else b.getD k 0) := by
 rw [Cl (by rw [Ank]; exact h), Abq]
theorem Abr (h : ∀ k, k < a.length → p k = q k) : sel p a b = sel q a b := by
 apply List.map_congr_left
 intro k hk
 rw [h k (List.mem_range.1 hk)]
theorem Aty {k : Nat} (h : k < a.length) : Sa (sel p a b) (k : Int) (a.getD k 0) = some (sel (fun j => p j || decide (j = k)) a b) := by
 rw [Za _ (by rw [Ank]; exact h)]
 congr 1
 apply List.ext_getElem (by simp [Ank])
 intro i h1 h2
 rw [List.getElem_set, Abq, Abq]
 by_cases hi : k = i
 ·subst hi; simp
 ·have : ¬ i = k := fun e => hi e.symm
  simp [hi, this]
theorem Atv (h : ∀ k, k < a.length → p k = true) : sel p a b = a := by
 apply List.ext_getElem (by simp [Ank])
 intro i h1 h2
 rw [Abq, if_pos (h i h2), Mx h2]
theorem Atw (hl : b.length = a.length) (h : ∀ k, k < a.length → p k = false) : sel p a b = b := by
 apply List.ext_getElem (by simp [Ank, hl])
 intro i h1 h2
 rw [Abq, h i (by omega)]
 simp [List.getD_eq_getElem?_getD, h2]
end
end Go.Pl
set_option linter.unusedVariables false
set_option linter.unusedSimpArgs false
namespace Go.Pl
open Go Go.Lv
theorem Aye (a b : Int32) : Bp a b = a * b := by
 rw [Bp, Akd, Akd, Bdn, Int32.ofInt_mul, Int32.ofInt_toInt, Int32.ofInt_toInt]
theorem Aby (a : Int32) : -2147483648 ≤ a.toInt ∧ a.toInt < 2147483648 := ⟨a.le_toInt, a.toInt_lt⟩
theorem Ek (a : Int32) : (Ad a : Int) = a.toInt := by
 have := Aby a
 show wrap64 a.toInt = _
 rw [Ca] <;> omega
theorem Ah9 (n : Int) : (Ad n : Int32) = Int32.ofInt n := rfl
theorem Bmf (x : Int) : Int32.ofInt (x % 4294967296) = Int32.ofInt x := by
 apply Int32.toInt_inj.1
 rw [Int32.toInt_ofInt, Int32.toInt_ofInt]
 exact Int.emod_bmod x 4294967296
theorem Awt (x : Int) : Bw x = some (Int32.ofInt x) := by
 have e1 : (Ad x : UInt64).toNat = (x % 18446744073709551616).toNat := by
  rw [Bfn, UInt64.toNat_ofNat', Nat.mod_eq_of_lt (by omega)]
 have e2 : (Ad (Ad x : UInt64) : UInt32).toNat = (x % 4294967296).toNat := by
  have e : (Ad (Ad x : UInt64) : UInt32) = UInt32.ofNat (Ad x : UInt64).toNat := by simp only [Ad, Is, Dw]
  rw [e, UInt32.toNat_ofNat', e1]
  show (x % 18446744073709551616).toNat % 4294967296 = _
  omega
 have e3 : (Ad (Ad (Ad x : UInt64) : UInt32) : Int32) = Int32.ofInt ((Ad (Ad x : UInt64) : UInt32).toNat : Int) := rfl
 rw [Bw, e3, e2, ← Bmf x]
 congr 2; omega
theorem Atu (a b : Int32) : Bw (Af (Ad a : Int) (Ad b : Int)) = some (a + b) := by
 have := Aby a
 have := Aby b
 rw [Ek, Ek, Ah (by omega) (by omega), Awt, Int32.ofInt_add, Int32.ofInt_toInt, Int32.ofInt_toInt]
theorem Bow (a b : Int32) : Bw (Bp (Ad a : Int) (Ad b : Int)) = some (a * b) := by
 have ha := Aby a
 have hb := Aby b
 have h1 : -9223372036854775808 ≤ a.toInt * b.toInt ∧ a.toInt * b.toInt ≤ 9223372036854775807 := by
  have h2 : (a.toInt * b.toInt).natAbs ≤ 2147483648 * 2147483648 := by
   rw [Int.natAbs_mul]; exact Nat.mul_le_mul (by omega) (by omega)
  omega
 rw [Ek, Ek, Ip h1.1 h1.2, Awt, Int32.ofInt_mul, Int32.ofInt_toInt, Int32.ofInt_toInt]
def OkF (s : Int) (t p : List Int32) : Prop := (s = 9 ∨ s = 10) ∧ t.length = 16 ∧ p.length = 16
theorem Auk {s : Int} {t p : List Int32} (h : OkF s t p) : Aes s t p = some 0 := by
 obtain ⟨rfl | rfl, _, _⟩ := h <;> rfl
theorem g32 {l : List Int32} {k : Nat} (h : k < l.length) : Al l (k : Int) = some (l.getD k 0) := by
 rw [Cl h]; simp [List.getD_eq_getElem?_getD, h]
def Apt (t p : List Int32) : Nat → Int32
 | 0 => 0
 | i + 1 => Apt t p i + t.getD i 0 * p.getD i 0
def half (s : Int) : Int32 := if s = 9 then 256 else 512
def gF (s : Int) (t p : List Int32) : Int32 := Int32.ofInt ((half s + Apt t p 16).toInt.fdiv (if s = 9 then 512 else 1024))
theorem Bbs {s : Int} {t p : List Int32} (h : OkF s t p) : ∀ (j i q : Nat), i + j = 16 → j < q → Uk t s p q (half s + Apt t p i) (i : Int) = some (gF s t p, 0)
 | 0, i, q + 1, hi, _ => by
  obtain rfl : i = 16 := by omega
  have hs := h.1
  rw [Uk, Afg, if_neg (by rw [Ae]; simp), Alh, Ars, Cm (by rw [Dq]; simp; omega), Aa]
  obtain rfl | rfl := hs <;> rfl
 | j + 1, i, q + 1, hi, hq => by
  obtain ⟨hs, ht, hp⟩ := h
  rw [Uk, Afg, if_pos (by rw [Ae]; simp; omega), g32 (by omega), Aa, g32 (by omega), Aa, Aa, Ah (b := 1) (by omega) (by omega), Amn, Aye, Int32.add_assoc]
  exact Bbs ⟨hs, ht, hp⟩ j (i + 1) q (by omega) (by omega)
theorem Bpd {s : Int} {t p : List Int32} (h : OkF s t p) : Amz s t p = some (gF s t p, 0) := by
 have hs := h.1
 have h1 := Bbs h 16 0 Ay (by omega) (by have := Aq; omega)
 have e : Fu (1 : Int32) (GI.toZ (Ao s (1 : Int))).toNat = half s + Apt t p 0 := by
  obtain rfl | rfl := hs <;> rfl
 rw [Amz, Ak9, Auk h, Aa, if_neg (by rw [Aj]; simp), Cm (by rw [Dq, Bt (by omega) (by omega)]; simp; omega), Aa, Ak2, e]
 exact h1
theorem Axs {s : Int} {t p : List Int32} (ht : t.length = 16) (hp : p.length = 16) {g : Int32} (hg : Apt t p 16 = g) : ∀ (j i q : Nat), i + j = 16 → j < q → Ii s t p q (Apt t p i).toInt (i : Int) = some g
 | 0, i, q + 1, hi, _ => by
  obtain rfl : i = 16 := by omega
  rw [Ii, Qs, if_neg (by rw [Ae]; simp), Zq, Ahk, Ah9, Int32.ofInt_toInt, hg]
 | j + 1, i, q + 1, hi, hq => by
  have ih := Axs (s := s) ht hp hg j (i + 1) q (by omega) (by omega)
  rw [Apt] at ih
  rw [Ii, Qs, if_pos (by rw [Ae]; simp; omega), g32 (by omega), g32 (by omega), Aa, Aa, Aa, Aa, Bow, Aa, ← Ek (Apt t p i), Atu, Aa, Ek, Ah (by omega) (by omega)]
  exact ih
theorem Bof {s : Int} {t p : List Int32} (h : OkF s t p) : Aeq s t p = some (Apt t p 16) :=
 Axs h.2.1 h.2.2 rfl 16 0 Ay (by omega) (by have := Aq; omega)
theorem Bls (x n : Int) (hn : n = 512 ∨ n = 1024 ∨ n = 16 ∨ n = 32) : (if x.tmod n < 0 then x.tdiv n - 1 else x.tdiv n) = x.fdiv n := by
 have hs : n.sign = 1 := by obtain rfl | rfl | rfl | rfl := hn <;> rfl
 rw [Int.tdiv_eq_ediv, Int.tmod_eq_emod, hs, Int.fdiv_eq_ediv_of_nonneg _ (by omega)]
 by_cases h : 0 ≤ x ∨ n ∣ x
 ·rw [if_pos h, if_pos h]
  obtain rfl | rfl | rfl | rfl := hn <;> (rw [if_neg (by omega)]; omega)
 ·rw [if_neg h, if_neg h]
  obtain rfl | rfl | rfl | rfl := hn <;> (rw [if_pos (by omega)]; omega)
theorem Bag (x n : Int) (hn : n = 512 ∨ n = 1024 ∨ n = 16 ∨ n = 32) (h : -1000000000000 ≤ x) (h' : x ≤ 1000000000000) : -1000000000000 ≤ x.tdiv n ∧ x.tdiv n ≤ 1000000000000 := by
 have hs : n.sign = 1 := by obtain rfl | rfl | rfl | rfl := hn <;> rfl
 rw [Int.tdiv_eq_ediv, hs]
 by_cases h : 0 ≤ x ∨ n ∣ x
 ·rw [if_pos h]; obtain rfl | rfl | rfl | rfl := hn <;> omega
 ·rw [if_neg h]; obtain rfl | rfl | rfl | rfl := hn <;> omega
theorem Bw9 (x n : Int) (hn : n = 512 ∨ n = 1024 ∨ n = 16 ∨ n = 32) (h : -1000000000000 ≤ x) (h' : x ≤ 1000000000000) : Cn x n = x.tdiv n := by
 have := Bag x n hn h h'
 rw [Ag3, Ca (by omega) (by omega)]
theorem Bep (x n : Int) (hn : n = 512 ∨ n = 1024 ∨ n = 16 ∨ n = 32) (h : -1000000000000 ≤ x) (h' : x ≤ 1000000000000) :
  (if (Ci (Lk x n) (0 : Int)) = true then some (Ad (Ao (Cn x n) (1 : Int)) : Int32) else some (Ad (Cn x n) : Int32)) = some (Int32.ofInt (x.fdiv n)) := by
 have hb := Bag x n hn h h'
 rw [Ae, Lk, Bw9 x n hn h h', Bt (by omega) (by omega), Ah9, Ah9, ← Bls x n hn]
 by_cases hx : x.tmod n < 0
 ·rw [if_pos (by simpa using hx), if_pos hx]
 ·rw [if_neg (by simpa using hx), if_neg hx]
theorem Bta {s : Int} {t p : List Int32} (h : OkF s t p) : Vx s t p = some (gF s t p) := by
 obtain ⟨hs, ht, hp⟩ := h
 have h : OkF s t p := ⟨hs, ht, hp⟩
 have hx := Aby (Apt t p 16 + half s)
 have key : ∀ n : Int, (n = 512 ∨ n = 1024) → (half s).toInt = n / 2 → gF s t p = Int32.ofInt ((half s + Apt t p 16).toInt.fdiv n) → On s t p n = some (gF s t p) := by
  intro n hn hh hg
  have e2 : Cn n (2 : Int) = (half s).toInt := by rw [hh]; obtain rfl | rfl := hn <;> rfl
  rw [On, Afm, Bof h, Aa, e2, ← Ek (half s), Atu, Aa, Cm (by rw [Aj]; simp; omega), Aa, Aa, Ek, Bep _ n (by omega) (by omega) (by omega), hg, Int32.add_comm]
 rw [Vx, Ww]
 obtain rfl | rfl := hs
 ·rw [if_pos (by rw [Az]; rfl)]; exact key 512 (.inl rfl) rfl rfl
 ·rw [if_neg (by rw [Az]; decide)]; exact key 1024 (.inr rfl) rfl rfl
def stp (i : Nat) : Int32 := if i = 0 then 4 else if i < 4 then 2 else 1
def sg (x : Int32) : Int32 := if x.toInt < 0 then -1 else if 0 < x.toInt then 1 else 0
def lrn (t p : List Int32) (w : Int32) : List Int32 := (List.range 16).map fun i => t.getD i 0 + stp i * sg (p.getD i 0) * sg w
theorem Ae8 (t p : List Int32) (w : Int32) : (lrn t p w).length = 16 := by simp [lrn]
theorem Bdi (t p : List Int32) (w : Int32) {i : Nat} (h : i < 16) : (lrn t p w).getD i 0 = t.getD i 0 + stp i * sg (p.getD i 0) * sg w := by
 rw [Mx (by rw [Ae8]; exact h)]; simp [lrn]
theorem step_eq (i : Nat) : Ama (i : Int) = some (stp i) := by
 rw [Ama, stp]
 by_cases h : i = 0
 ·rw [if_pos (by rw [Az]; simp [h]), if_pos h]
 ·rw [if_neg (by rw [Az]; simp; omega), if_neg h]
  by_cases h2 : i < 4
  ·rw [if_pos (by rw [Ae]; simp; omega), if_pos h2]
  ·rw [if_neg (by rw [Ae]; simp; omega), if_neg h2]
theorem Bna (i : Nat) : Wa (i : Int) = some (stp i) := by
 rw [Wa, stp]
 by_cases h : i = 0
 ·rw [if_pos (by rw [Az]; simp [h]), if_pos h]
 ·rw [if_neg (by rw [Az]; simp; omega), if_neg h]
  by_cases h2 : i < 4
  ·rw [if_pos (by rw [Aoh]; simp; omega), if_pos h2]
  ·rw [if_neg (by rw [Aoh]; simp; omega), if_neg h2]
theorem Bcy (a b : Int32) : Ci a b = decide (a.toInt < b.toInt) := rfl
theorem Bih (a b : Int32) : Gf a b = decide (b.toInt < a.toInt) := rfl
theorem sign_eq (x : Int32) : Of x = some (sg x) := by
 rw [Of, sg, Bcy, Bih, show (0 : Int32).toInt = 0 from rfl]
 by_cases h : x.toInt < 0
 ·rw [if_pos (by simpa using h), if_pos h]
 ·rw [if_neg (by simpa using h), if_neg h]
  by_cases h2 : 0 < x.toInt
  ·rw [if_pos (by simpa using h2), if_pos h2]
  ·rw [if_neg (by simpa using h2), if_neg h2]
theorem Bkj : sg 0 = 0 := rfl
theorem toInt_ne {x : Int32} (h : x ≠ 0) : x.toInt ≠ 0 := fun e => h (Int32.toInt_inj.1 (by rw [e]; rfl))
theorem Bc5 {x : Int32} (h : x.toInt < 0) : sg x = -1 := by rw [sg, if_pos h]
theorem Bc8 {x : Int32} (h : x ≠ 0) (h2 : ¬ x.toInt < 0) : sg x = 1 := by
 have := toInt_ne h
 rw [sg, if_neg h2, if_pos (by omega)]
theorem Aq6 (i : Nat) : stp i = 4 ∨ stp i = 2 ∨ stp i = 1 := by
 unfold stp
 by_cases h : i = 0
 ·rw [if_pos h]; exact .inl rfl
 ·rw [if_neg h]; split; exact .inr (.inl rfl); exact .inr (.inr rfl)
theorem Blv {x w : Int32} (hx : x ≠ 0) (hw : w ≠ 0) (h : (x.toInt < 0) = (w.toInt < 0)) (i : Nat) : stp i * sg x * sg w = stp i := by
 by_cases h1 : x.toInt < 0
 ·rw [Bc5 h1, Bc5 (by rw [← h]; exact h1)]
  obtain e | e | e := Aq6 i <;> rw [e] <;> decide
 ·rw [Bc8 hx h1, Bc8 hw (by rw [← h]; exact h1)]
  obtain e | e | e := Aq6 i <;> rw [e] <;> decide
theorem Bhu {x w : Int32} (hx : x ≠ 0) (hw : w ≠ 0) (h : ¬ (x.toInt < 0) = (w.toInt < 0)) (i : Nat) (a : Int32) : a + stp i * sg x * sg w = a - stp i := by
 have key : stp i * sg x * sg w = - stp i := by
  by_cases h1 : x.toInt < 0
  ·have h2 : ¬ w.toInt < 0 := fun h2 => h (propext ⟨fun _ => h2, fun _ => h1⟩)
   rw [Bc5 h1, Bc8 hw h2]
   obtain e | e | e := Aq6 i <;> rw [e] <;> decide
  ·have h2 : w.toInt < 0 := Decidable.by_contra fun h2 => h (propext ⟨fun h3 => absurd h3 h1, fun h3 => absurd h3 h2⟩)
   rw [Bc8 hx h1, Bc5 h2]
   obtain e | e | e := Aq6 i <;> rw [e] <;> decide
 rw [key, Int32.sub_eq_add_neg]
def Atb (i : Nat) : Nat → Bool := fun j => decide (j < i)
theorem Azj {a b : List Int32} {i : Nat} (h : i < a.length) : Sa (sel (Atb i) a b) (i : Int) (a.getD i 0) = some (sel (Atb (i + 1)) a b) := by
 rw [Aty h]
 congr 1
 apply Abr
 intro k _
 rw [Bool.eq_iff_iff]
 simp only [Atb, Bool.or_eq_true, decide_eq_true_eq]; omega
theorem Bmw {a b : List Int32} {i : Nat} (e : a.getD i 0 = b.getD i 0) : sel (Atb i) a b = sel (Atb (i + 1)) a b := by
 apply List.map_congr_left
 intro k _
 simp only [Atb, decide_eq_true_eq]
 by_cases h1 : k < i
 ·rw [if_pos h1, if_pos (by omega)]
 ·by_cases h2 : k = i
  ·subst h2; rw [if_neg h1, if_pos (by omega), e]
  ·rw [if_neg h1, if_neg (by omega)]
theorem Bg0 {a b : List Int32} {i : Nat} (h : i < a.length) : Al (sel (Atb i) a b) (i : Int) = some (b.getD i 0) := by
 rw [Aj9 h, if_neg (by simp [Atb])]
theorem Bcm {s : Int} {t p : List Int32} {w : Int32} (hw : w ≠ 0) (ht : t.length = 16) (hp : p.length = 16) : ∀ (j i q : Nat), i + j = 16 → j < q → Un w p s q (i : Int) (sel (Atb i) (lrn t p w) t) = some (s, lrn t p w, p, 0)
 | 0, i, q + 1, hi, _ => by
  obtain rfl : i = 16 := by omega
  rw [Un, Afb, if_neg (by rw [Ae]; simp), Atv (fun k hk => by rw [Ae8] at hk; simpa [Atb] using hk)]; rfl
 | j + 1, i, q + 1, hi, hq => by
  have hl := Ae8 t p w
  have hg := Bdi t p w (i := i) (by omega)
  rw [Un, Afb, if_pos (by rw [Ae]; simp; omega), g32 (by omega), Aa, Ah (b := 1) (by omega) (by omega), Bg0 (by omega), step_eq]
  simp only [Aa]
  rw [Amn, Ayb, Bkf, Bcy, Bcy, show (0 : Int32).toInt = 0 from rfl]
  have ih := Bcm (s := s) hw ht hp j (i + 1) q (by omega) (by omega)
  by_cases hx : p.getD i 0 = 0
  ·rw [if_pos (by rw [hx]; rfl), Bmw (by rw [hg, hx, Bkj, Int32.mul_zero, Int32.zero_mul, Int32.add_zero])]
   exact ih
  ·rw [if_neg (by simpa using hx)]
   by_cases hs : ((p.getD i 0).toInt < 0) = (w.toInt < 0)
   ·rw [if_pos (by rw [beq_iff_eq]; simp only [hs]), show t.getD i 0 + stp i = (lrn t p w).getD i 0 by rw [hg, Blv hx hw hs], Azj (by omega), Aa]
    exact ih
   ·rw [if_neg (by rw [beq_iff_eq, decide_eq_decide]; exact fun h => hs (propext h)), show t.getD i 0 - stp i = (lrn t p w).getD i 0 by rw [hg, Bhu hx hw hs], Azj (by omega), Aa]
    exact ih
theorem Bql {t : List Int32} (p : List Int32) (ht : t.length = 16) : lrn t p 0 = t := by
 apply List.ext_getElem (by rw [Ae8, ht])
 intro i h1 h2
 have := Bdi t p 0 (i := i) (by omega)
 rw [Mx h1, Mx h2] at this
 rw [this, Bkj, Int32.mul_zero, Int32.add_zero]
theorem Bp4 {s : Int} {t p : List Int32} (h : OkF s t p) (w : Int32) : Ams s t p w = some (s, lrn t p w, p, 0) := by
 rw [Ams, Ak8, Auk h, Aa, if_neg (by rw [Aj]; simp), Bkf]
 by_cases hw : w = 0
 ·rw [if_pos (by simpa using hw), hw, Bql p h.2.1]
 ·have h1 := Bcm (s := s) hw h.2.1 h.2.2 16 0 Ay (by omega) (by have := Aq; omega)
  rw [Atw (by rw [Ae8, h.2.1]) (fun k _ => by simp [Atb])] at h1
  rw [if_neg (by simpa using hw)]
  exact h1
theorem Atm {s : Int} {t p : List Int32} {w : Int32} (ht : t.length = 16) (hp : p.length = 16) : ∀ (j i q : Nat), i + j = 16 → j < q → Eg w s p q (i : Int) (sel (Atb i) (lrn t p w) t) = some (s, lrn t p w, p)
 | 0, i, q + 1, hi, _ => by
  obtain rfl : i = 16 := by omega
  rw [Eg, Kg, if_neg (by rw [Ae]; simp), Atv (fun k hk => by rw [Ae8] at hk; simpa [Atb] using hk)]; rfl
 | j + 1, i, q + 1, hi, hq => by
  have hl := Ae8 t p w
  have hg := Bdi t p w (i := i) (by omega)
  rw [Eg, Kg, if_pos (by rw [Ae]; simp; omega), g32 (l := p) (by omega), Ah (b := 1) (by omega) (by omega), Bg0 (by omega), Bna, sign_eq w, Aa, Aa, Aa, Aa, Aa, sign_eq, Aa, Aa, Aa, Amn, Aye, Aye, ← hg, Azj (by omega), Aa]
  exact Atm ht hp j (i + 1) q (by omega) (by omega)
theorem Bir {s : Int} {t p : List Int32} (h : OkF s t p) (w : Int32) : Xn s t p w = some (s, lrn t p w, p) := by
 have h1 := Atm (s := s) (w := w) h.2.1 h.2.2 16 0 Ay (by omega) (by have := Aq; omega)
 rw [Atw (by rw [Ae8, h.2.1]) (fun k _ => by simp [Atb])] at h1
 exact h1
theorem Bs0 {p : List Int32} (h : p.length = 16) : ∃ a0 a1 a2 a3 a4 a5 a6 a7 a8 a9 b0 b1 b2 b3 b4 b5, p = [a0, a1, a2, a3, a4, a5, a6, a7, a8, a9, b0, b1, b2, b3, b4, b5] := by
 match p, h with
 | [a0, a1, a2, a3, a4, a5, a6, a7, a8, a9, b0, b1, b2, b3, b4, b5], _ => exact ⟨a0, a1, a2, a3, a4, a5, a6, a7, a8, a9, b0, b1, b2, b3, b4, b5, rfl⟩
theorem Bte {s : Int} {t p : List Int32} (h : OkF s t p) (x : Int32) : Aqq s t p x = some (s, t, x :: p.take 15, 0) := by
 obtain ⟨hs, ht, hp⟩ := h
 rw [Aqq, Ahw, Auk ⟨hs, ht, hp⟩, Aa, if_neg (by rw [Aj]; simp), show vwI (16 : Int) 1 16 = some () from rfl, Aa, show vwI (16 : Int) 0 16 = some () from rfl, Aa, Am1, Aub]
 obtain ⟨a0, a1, a2, a3, a4, a5, a6, a7, a8, a9, b0, b1, b2, b3, b4, b5, rfl⟩ := Bs0 hp
 rfl
def shf (p : List Int32) (i : Nat) : List Int32 := (List.range 16).map fun k => if k ≤ i then p.getD k 0 else p.getD (k - 1) 0
theorem Aah (p : List Int32) (i : Nat) : (shf p i).length = 16 := by simp [shf]
theorem Bsz (p : List Int32) (i k : Nat) (h : k < 16) : (shf p i).getD k 0 = if k ≤ i then p.getD k 0 else p.getD (k - 1) 0 := by
 rw [Mx (by rw [Aah]; exact h)]; simp [shf]
theorem Bsc (p : List Int32) (i : Nat) (h : i + 1 < 16) : Sa (shf p (i + 1)) ((i + 1 : Nat) : Int) (p.getD i 0) = some (shf p i) := by
 rw [Za _ (by rw [Aah]; exact h)]
 congr 1
 apply List.ext_getElem (by simp [Aah])
 intro k h1 h2
 rw [Aah] at h2
 rw [List.getElem_set]
 simp only [shf, List.getElem_map, List.getElem_range]
 by_cases hk : i + 1 = k
 ·subst hk; rw [if_pos rfl, if_neg (by omega)]; rfl
 ·rw [if_neg hk]
  by_cases h3 : k ≤ i
  ·rw [if_pos (by omega), if_pos h3]
  ·rw [if_neg (by omega), if_neg h3]
theorem Avz (s : Int) (t p : List Int32) (x : Int32) (hp : p.length = 16) : ∀ (i q : Nat), i < 16 → i < q → Ff x s t q (i : Int) (shf p i) = some (s, t, x :: p.take 15)
 | 0, q + 1, _, _ => by
  have hg : Al (shf p 0) (0 : Int) = some ((shf p 0).getD 0 0) := g32 (l := shf p 0) (k := 0) (by rw [Aah]; omega)
  have hset : Sa (shf p 0) (0 : Int) x = some ((shf p 0).set 0 x) := Za (l := shf p 0) (n := 0) x (by rw [Aah]; omega)
  rw [Ff, Lm, if_neg (by rw [As]; simp), Ub, Ab9, hg, Aa, hset, Aa]
  congr 3
  apply List.ext_getElem (by simp [Aah, hp])
  intro k h1 h2
  rw [List.length_set, Aah] at h1
  rw [List.getElem_set]
  cases k with
  | zero => rw [if_pos rfl]; rfl
  | succ k =>
   rw [if_neg (by omega)]
   simp only [shf, List.getElem_map, List.getElem_range, List.getElem_cons_succ, List.getElem_take]
   rw [if_neg (by omega), Nat.add_sub_cancel, Mx (by omega)]
 | i + 1, q + 1, hi, hq => by
  have hg := g32 (l := shf p (i + 1)) (k := i) (by rw [Aah]; omega)
  rw [Bsz p (i + 1) i (by omega), if_pos (by omega)] at hg
  have e1 : Ao ((i + 1 : Nat) : Int) (1 : Int) = (i : Int) := by rw [Bt (by omega) (by omega)]; omega
  have hg2 := g32 (l := shf p (i + 1)) (k := i + 1) (by rw [Aah]; omega)
  rw [Ff, Lm, if_pos (by rw [As]; simp), e1, hg, Aa, Aa, hg2, Aa, Bsc p i hi, Aa]
  exact Avz s t p x hp i q (by omega) (by omega)
theorem Bnk {s : Int} {t p : List Int32} (hp : p.length = 16) (x : Int32) : Zl s t p x = some (s, t, x :: p.take 15) := by
 have h := Avz s t p x hp 15 Ay (by omega) (by have := Aq; omega)
 have e : shf p 15 = p := by
  apply List.ext_getElem (by rw [Aah, hp])
  intro k h1 h2
  rw [Aah] at h1
  simp only [shf, List.getElem_map, List.getElem_range]
  rw [if_pos (by omega), Mx h2]
 rw [e] at h
 exact h
theorem Bqy {s : Int} {t p : List Int32} (h : OkF s t p) (w x : Int32) : OkF s (lrn t p w) (x :: p.take 15) := ⟨h.1, Ae8 _ _ _, by simp [h.2.2]⟩
theorem Btp {s : Int} {t p : List Int32} (h : OkF s t p) (y : Int32) : Aox s t p y = some (y + gF s t p, s, lrn t p y, (y + gF s t p) :: p.take 15, 0) := by
 rw [Aox, Bpd h, Aa]
 simp only
 rw [if_neg (by rw [Aj]; simp), Amn, Asf, Bp4 h, Aa]
 simp only
 rw [Bte (s := s) (t := lrn t p y) (p := p) ⟨h.1, Ae8 _ _ _, h.2.2⟩, Aa]; rfl
theorem Bm1 {s : Int} {t p : List Int32} (h : OkF s t p) (y : Int32) : Ny s t p y = some (y + gF s t p, s, lrn t p y, (y + gF s t p) :: p.take 15) := by
 rw [Ny, Bta h, Aa, Atu, Aa, Bir h, Aa]
 simp only
 rw [Bnk h.2.2, Aa]
def sB (bits : Int) : Int := if bits = 16 then 9 else 10
def shB (bits : Int) : Int := if bits = 8 then 4 else 5
def Dg (bits : Int) : Prop := bits = 8 ∨ bits = 16 ∨ bits = 24
def gs (sh : Int) (last : Int32) : Int32 := Ad (Bdw (Ao (Fu (Ad last : Int) sh.toNat) (Ad last)) sh.toNat)
theorem Bwj (bits : Int) : sB bits = 9 ∨ sB bits = 10 := by unfold sB; split <;> simp
theorem Brp (bits : Int) : 0 ≤ shB bits := by unfold shB; split <;> omega
theorem Bxr {bits : Int} (h : Dg bits) (t : List Int32) : Aua bits t = some (sB bits, t, List.replicate 16 0, 0) := by
 obtain rfl | rfl | rfl := h <;> rfl
theorem Bu8 {bits : Int} (h : Dg bits) : Apg bits = some (shB bits, 0) := by
 obtain rfl | rfl | rfl := h <;> rfl
theorem Bva {sh : Int} (h : 0 ≤ sh) (last : Int32) : Aj2 sh last = some (gs sh last) := by
 rw [Aj2, Cm (by rw [Dq]; simpa using h), Aa, Aa]; rfl
theorem Bu0 {bits : Int} (h : Dg bits) (last : Int32) : Af1 bits last = some (gs (shB bits) last, 0) := by
 rw [Af1, Bu8 h, Aa]
 simp only
 rw [if_neg (by rw [Aj]; simp), Bva (Brp bits), Aa]
theorem Bjk {bits : Int} (h : Dg bits) (last : Int32) (t p : List Int32) : Af4 bits last (sB bits) t p = some 0 := by
 rw [Af4, Bxr h, Aa]
 simp only
 rw [if_neg (by rw [Aj, Aj]; simp)]
theorem Bnc {bits : Int} (h : Dg bits) {t p : List Int32} (hF : OkF (sB bits) t p) (last y : Int32) :
  Kn bits last (sB bits) t p y = some (y + gF (sB bits) t p + gs (shB bits) last, bits, y + gF (sB bits) t p + gs (shB bits) last, sB bits, lrn t p y, (y + gF (sB bits) t p) :: p.take 15, 0) := by
 rw [Kn, Bjk h, Aa, if_neg (by rw [Aj]; simp), Bu0 h, Aa]
 simp only
 rw [Btp hF, Aa]
 simp only
 rw [Amn]
theorem Auw (sh : Int) (hs : sh = 4 ∨ sh = 5) (last : Int32) : La sh last = some (gs sh last) := by
 have hl := Aby last
 have key : ∀ n : Int, n = 16 ∨ n = 32 → gs sh last = Int32.ofInt (((n - 1) * last.toInt).fdiv n) → Lq last n = some (gs sh last) := by
  intro n hn hg
  have e : Bp (Ao n (1 : Int)) (Ad last : Int) = (n - 1) * last.toInt := by
   obtain rfl | rfl := hn <;> (rw [Ek, Bt (by omega) (by omega), Ip (by omega) (by omega)])
  rw [Lq, Abv, Cm (by rw [Aj]; simp; omega), Aa, Aa, e, Bep _ n (by omega) (by obtain rfl | rfl := hn <;> omega) (by obtain rfl | rfl := hn <;> omega), hg]
 rw [La, Ti]
 obtain rfl | rfl := hs
 ·rw [if_neg (by rw [Az]; decide)]
  refine key 16 (.inl rfl) ?_
  have e : Fu (Ad last : Int) (4 : Int).toNat = last.toInt * 16 := by
   rw [Ek]; show wrap64 (last.toInt * 2 ^ 4) = _; rw [Ca] <;> omega
  rw [gs, e, Ek, Bt (by omega) (by omega), Ah9]
  show Int32.ofInt ((last.toInt * 16 - last.toInt).fdiv 16) = _
  congr 2; omega
 ·rw [if_pos (by rw [Az]; rfl)]
  refine key 32 (.inr rfl) ?_
  have e : Fu (Ad last : Int) (5 : Int).toNat = last.toInt * 32 := by
   rw [Ek]; show wrap64 (last.toInt * 2 ^ 5) = _; rw [Ca] <;> omega
  rw [gs, e, Ek, Bt (by omega) (by omega), Ah9]
  show Int32.ofInt ((last.toInt * 32 - last.toInt).fdiv 32) = _
  congr 2; omega
theorem Bmj {bits : Int} (h : Dg bits) {t p : List Int32} (hF : OkF (sB bits) t p) (last y : Int32) :
  Hj bits last (sB bits) t p y = some (y + gF (sB bits) t p + gs (shB bits) last, bits, y + gF (sB bits) t p + gs (shB bits) last, sB bits, lrn t p y, (y + gF (sB bits) t p) :: p.take 15) := by
 have hb : Qn bits last (sB bits) t p = some (Ad (gs (shB bits) last) : Int) := by
  rw [Qn]
  obtain rfl | rfl | rfl := h
  ·rw [if_pos (by rw [Az]; rfl), Auw 4 (.inl rfl), Aa]; rfl
  ·rw [if_neg (by rw [Az]; decide), Auw 5 (.inr rfl), Aa]; rfl
  ·rw [if_neg (by rw [Az]; decide), Auw 5 (.inr rfl), Aa]; rfl
 rw [Hj, Bm1 hF, Aa]
 simp only
 rw [hb, Aa, Atu, Aa]
theorem Bv9 {bits : Int} (h : Dg bits) (t : List Int32) : Ael bits t = some (bits, 0, sB bits, t, List.replicate 16 0, 0) := by
 obtain rfl | rfl | rfl := h <;> rfl
def Aon (n : UInt32) : Int32 := if n.toNat % 2 = 0 then Int32.ofInt ((n.toNat / 2 : Nat) : Int) else Int32.ofInt (-((n.toNat / 2 : Nat) : Int) - 1)
theorem Bf9 (a b : Int32) : (Aaa a b).toBitVec = a.toBitVec ^^^ b.toBitVec := by
 show (Int32.ofInt ((BitVec.ofInt 32 a.toBitVec.toInt ^^^ BitVec.ofInt 32 b.toBitVec.toInt).toNat : Int)).toBitVec = _
 rw [BitVec.ofInt_toInt, BitVec.ofInt_toInt, Int32.toBitVec_ofInt, BitVec.ofInt_natCast, BitVec.ofNat_toNat, BitVec.setWidth_eq]
theorem Bwd (m : Nat) (h : m < 2147483648) : Aaa (Int32.ofInt (m : Int)) (Int32.ofInt (-1)) = Int32.ofInt (-(m : Int) - 1) := by
 apply Int32.toBitVec_inj.1
 have e1 : (Int32.ofInt (-1)).toBitVec = BitVec.allOnes 32 := by decide
 rw [Bf9, e1, BitVec.xor_allOnes, Int32.toBitVec_ofInt, Int32.toBitVec_ofInt]
 apply BitVec.eq_of_toNat_eq
 rw [BitVec.toNat_not, BitVec.toNat_ofInt, BitVec.toNat_ofInt]
 omega
theorem Bqd (n : UInt32) : Ym n = some (Aon n) := by
 have hn := n.toNat_lt
 have e1 : (Ad (Cg n (GI.toZ (1 : UInt64)).toNat) : Int32) = Int32.ofInt ((n.toNat / 2 : Nat) : Int) := by
  show Int32.ofInt ((Cg n 1).toNat : Int) = _
  rw [Al1]
 have e2 : (Ad (Jg n (1 : UInt32)) : Int32) = Int32.ofInt ((n.toNat % 2 : Nat) : Int) := by
  show Int32.ofInt ((Jg n (1 : UInt32)).toNat : Int) = _
  rw [Bge, UInt32.toNat_and]
  show Int32.ofInt ((n.toNat &&& 1 : Nat) : Int) = _
  rw [Nat.and_one_is_mod]
 rw [Ym, e1, e2, Aon]
 congr 1
 by_cases h : n.toNat % 2 = 0
 ·have e3 : Atc (Int32.ofInt ((n.toNat % 2 : Nat) : Int)) = Int32.ofInt 0 := by rw [h]; decide
  rw [if_pos h, e3]
  apply Int32.toBitVec_inj.1
  rw [Bf9, show (Int32.ofInt 0).toBitVec = 0#32 from rfl, BitVec.xor_zero]
 ·have e3 : Atc (Int32.ofInt ((n.toNat % 2 : Nat) : Int)) = Int32.ofInt (-1) := by rw [show n.toNat % 2 = 1 by omega]; decide
  rw [if_neg h, e3, Bwd _ (by omega)]
theorem Bsa (n : UInt32) : Kj n = some (Aon n) := by
 have hn := n.toNat_lt
 have e1 : geq (Abu n (2 : UInt32)) (0 : UInt32) = decide (n.toNat % 2 = 0) := by
  rw [Bd4, Bgp, Bool.eq_iff_iff]
  simp only [beq_iff_eq, ← UInt32.toNat_inj, UInt32.toNat_mod, decide_eq_true_eq]; rfl
 rw [Kj, e1, Aon]
 by_cases h : n.toNat % 2 = 0
 ·rw [if_pos (by simpa using h), if_pos h, Bgc]; rfl
 ·have e2 : (Ad n : Int) = (n.toNat : Int) := Bjj n
  rw [if_neg (by simpa using h), if_neg h, e2, Ah (by omega) (by omega), Bh0, Ca (by omega) (by omega), Ag3, Int.tdiv_eq_ediv, Ah9]
  congr 2
  rw [if_pos (.inr (by omega)), Ca (by omega) (by omega)]; omega
end Go.Pl
set_option linter.unusedVariables false
set_option linter.unusedSimpArgs false
namespace Go.Pl
open Go Go.Lv
theorem Be8 {c : Prop} [Decidable c] (h : c) : Wq (decide c) = some () := by rw [decide_eq_true h]; rfl
def unV (f : Nat → Int32) (ch : Nat) : Nat → Int32
 | 0 => if 1 < ch then f (ch - 1) + Cn (f (ch - 2)) (2 : Int32) else f (ch - 1)
 | j + 1 => unV f ch j - f (ch - 2 - j)
def unm (ch : Nat) (m : List Int32) : List Int32 := (List.range m.length).map fun k => unV (fun i => m.getD (k - k % ch + i) 0) ch (ch - 1 - k % ch)
theorem Aqt (ch : Nat) (m : List Int32) : (unm ch m).length = m.length := by simp [unm]
theorem Awy {ch : Nat} {m : List Int32} {a i : Nat} (ha : a % ch = 0) (hi : i < ch) (h : a + i < m.length) : (unm ch m).getD (a + i) 0 = unV (fun i => m.getD (a + i) 0) ch (ch - 1 - i) := by
 have hb : (a + i) % ch = i := by rw [Nat.add_mod, ha, Nat.zero_add, Nat.mod_mod, Nat.mod_eq_of_lt hi]
 rw [Mx (by rw [Aqt]; exact h)]
 simp only [unm, List.getElem_map, List.getElem_range, hb]
 rw [show a + i - i = a by omega]
section
variable (ch : Nat) (m : List Int32)
theorem Bqo (h1 : 1 ≤ ch) (h6 : ch ≤ 6) (hm : m.length % ch = 0) (hl2 : m.length ≤ 4000) : Aqp (ch : Int) m = some 0 := by
 rw [Aqp, if_neg (by simp [Ae, As]; omega), if_neg (by rw [As, Ac]; simp; omega), Cm (by rw [Aj]; simp; omega), Aa, if_neg]
 rw [Aj, Lk, Ac, ← Int.ofNat_tmod, hm]; simp
theorem Ayo (bk : Int → List Int32 → Option (List Int32 × Int)) (at' : Nat) (h1 : 1 ≤ ch) (h6 : ch ≤ 6) (hm : at' % ch = 0) (hl : at' + ch ≤ m.length) (hl2 : m.length ≤ 4000) : ∀ (i q : Nat), i ≤ ch - 1 → i < q →
  Yp bk (ch : Int) (at' : Int) q ((i : Int) - 1) (sel (fun k => decide (k < at' ∨ (at' + i ≤ k ∧ k < at' + ch))) (unm ch m) m) = bk ((at' + ch : Nat) : Int) (sel (fun k => decide (k < at' + ch)) (unm ch m) m)
 | 0, q + 1, hi, _ => by
  have e4 : Af (at' : Int) (ch : Int) = ((at' + ch : Nat) : Int) := by rw [Ah (by omega) (by omega)]; omega
  rw [Yp, Ah2, if_neg (by rw [Dq]; simp), Anl, Atp, e4]
  congr 1
  apply Abr
  intro k _
  rw [Bool.eq_iff_iff]; simp; omega
 | i + 1, q + 1, hi, hq => by
  have hlen := Aqt ch m
  have e2 : Af (at' : Int) (ch : Int) - (at' : Int) = (ch : Int) := by rw [Ah (by omega) (by omega)]; omega
  have e3 : Af (i : Int) 1 = ((i + 1 : Nat) : Int) := by rw [Ah (by omega) (by omega)]; omega
  have hv : ((unm ch m).getD (at' + (i + 1)) 0 - m.getD (at' + i) 0) = (unm ch m).getD (at' + i) 0 := by
   rw [Awy hm (by omega) (by omega), Awy hm (by omega) (by omega), show ch - 1 - i = (ch - 1 - (i + 1)) + 1 by omega, unV, show ch - 2 - (ch - 1 - (i + 1)) = i by omega]
  rw [Yp, Ah2, show ((i + 1 : Nat) : Int) - 1 = (i : Int) by omega, if_pos (by rw [Dq]; simp), e2, e3, Be8 (by omega), Aa, Be8 (by omega), Aa,
   show (at' : Int) + ((i + 1 : Nat) : Int) = ((at' + (i + 1) : Nat) : Int) by omega, show (at' : Int) + (i : Int) = ((at' + i : Nat) : Int) by omega,
   Aj9 (by omega), Aa, Aj9 (by omega), Aa, Aa, if_pos (by simp; omega), if_neg (by simp; omega), Ayb, hv, Aty (by omega), Aa, Bt (by omega) (by omega)]
  have ih := Ayo bk at' h1 h6 hm hl hl2 i q (by omega) (by omega)
  rw [← ih]
  congr 1
  apply Abr
  intro k _
  rw [Bool.eq_iff_iff]; simp; omega
theorem Bgx {at' ch n : Nat} (ha : at' % ch = 0) (hm : n % ch = 0) (h : at' < n) : at' + ch ≤ n := by
 have d1 := Nat.div_add_mod at' ch
 have d2 := Nat.div_add_mod n ch
 rw [ha, Nat.add_zero] at d1
 rw [hm, Nat.add_zero] at d2
 have hlt : at' / ch < n / ch := by
  rcases Nat.lt_or_ge (at' / ch) (n / ch) with h' | h'
  ·exact h'
  ·have := Nat.mul_le_mul_left ch h'; omega
 have := Nat.mul_le_mul_left ch (show at' / ch + 1 ≤ n / ch from hlt)
 rw [Nat.mul_add] at this; omega
theorem Baw (h1 : 1 ≤ ch) (h6 : ch ≤ 6) (hm : m.length % ch = 0) (hl2 : m.length ≤ 4000) : ∀ (j at' q : Nat), at' % ch = 0 → at' ≤ m.length → m.length - at' ≤ j → j < q →
  Sm (ch : Int) q (at' : Int) (sel (fun k => decide (k < at')) (unm ch m) m) = some (unm ch m, 0)
 | j, at', q + 1, ha, hle, hj, hq => by
  have hlen := Aqt ch m
  have hl : Ac (sel (fun k => decide (k < at')) (unm ch m) m) = (m.length : Int) := by rw [Ac, Ank, hlen]
  rw [Sm, Amu, hl]
  by_cases h : at' < m.length
  ·have hb := Bgx ha hm h
   obtain ⟨j, rfl⟩ : ∃ k, j = k + 1 := ⟨j - 1, by omega⟩
   have e1 : Ao (Af (at' : Int) (ch : Int) - (at' : Int)) 1 = ((ch - 1 : Nat) : Int) := by rw [Ah (by omega) (by omega), Bt (by omega) (by omega)]; omega
   have e2 : Af (at' : Int) (ch : Int) - (at' : Int) = (ch : Int) := by rw [Ah (by omega) (by omega)]; omega
   have e4 : Af (at' : Int) (ch : Int) = ((at' + ch : Nat) : Int) := by rw [Ah (by omega) (by omega)]; omega
   have hi := Ayo ch m (Sm (ch : Int) q) at' h1 h6 ha hb hl2 (ch - 1) Ay (by omega) (by have := Aq; omega)
   have hrest := Baw h1 h6 hm hl2 j (at' + ch) q (by rw [Nat.add_mod_right, ha]) hb (by omega) (by omega)
   have hstart : Ahu (Sm (ch : Int) q) (ch : Int) (at' : Int) (sel (fun k => decide (k < at' ∨ (at' + (ch - 1) ≤ k ∧ k < at' + ch))) (unm ch m) m) = some (unm ch m, 0) := by
    have e6 : Ao ((ch - 1 : Nat) : Int) 1 = ((ch - 1 : Nat) : Int) - 1 := Bt (by omega) (by omega)
    rw [Ahu, Am8, Anv, e1, e6]
    exact Eq.trans hi hrest
   rw [if_pos (by rw [Ae]; simp; omega), show vwI (m.length : Int) (at' : Int) (Af (at' : Int) (ch : Int)) = some () by rw [e4, vwI, Be8]; omega, Aa, e1, e2]
   have hlast := Awy (m := m) ha (show ch - 1 < ch by omega) (by omega)
   rw [show ch - 1 - (ch - 1) = 0 by omega, unV] at hlast
   by_cases hc : 1 < ch
   ·have e5 : Ao ((ch - 1 : Nat) : Int) 1 = ((ch - 2 : Nat) : Int) := by rw [Bt (by omega) (by omega)]; omega
    rw [if_pos hc] at hlast
    rw [if_pos (by rw [As]; simp; omega), Be8 (by omega), Aa, e5, Be8 (by omega), Aa, show (at' : Int) + ((ch - 1 : Nat) : Int) = ((at' + (ch - 1) : Nat) : Int) by omega, show (at' : Int) + ((ch - 2 : Nat) : Int) = ((at' + (ch - 2) : Nat) : Int) by omega,
     Aj9 (by omega), Aa, Aj9 (by omega), Aa, Aa, if_neg (by simp), if_neg (by simp), Amn, ← hlast, Aty (by omega), Aa]
    rw [← hstart]
    congr 1
    apply Abr
    intro k _
    rw [Bool.eq_iff_iff]; simp; omega
   ·have hc1 : ch = 1 := by omega
    rw [if_neg (by rw [As]; simp; omega), ← hstart]
    congr 1
    rw [if_neg hc] at hlast
    apply List.map_congr_left
    intro k hk
    by_cases hk2 : k = at'
    ·subst hk2
     rw [if_neg (by simp), if_pos (by simp; omega)]
     rw [show k + (ch - 1) = k by omega] at hlast
     exact hlast.symm
    ·by_cases hk3 : k < at'
     ·rw [if_pos (by simp; omega), if_pos (by simp; omega)]
     ·rw [if_neg (by simp; omega), if_neg (by simp; omega)]
  ·rw [if_neg (by rw [Ae]; simp; omega), Atv (fun k hk => by simp; omega)]
   rfl
theorem Bs8 (h1 : 1 ≤ ch) (h6 : ch ≤ 6) (hm : m.length % ch = 0) (hl2 : m.length ≤ 4000) : As2 (ch : Int) m = some (unm ch m, 0) := by
 have hlen := Aqt ch m
 have h := Baw ch m h1 h6 hm hl2 m.length 0 Ay (by simp) (by omega) (by omega) (by have := Aq; omega)
 rw [As2, Apj, Bqo ch m h1 h6 hm hl2, Aa, if_neg (by rw [Aj]; simp), Gl, Cc (by simp; omega), Aa, Aa, List.nil_append, Am9]
 rw [Atw hlen.symm (fun k _ => by simp)] at h
 exact h
end
def Aud (f : Nat → Int32) (ch : Nat) : List Int32 := (List.range ch).map fun i => unV f ch (ch - 1 - i)
theorem Al8 (f : Nat → Int32) (ch : Nat) : (Aud f ch).length = ch := by simp [Aud]
theorem Auc (f : Nat → Int32) {ch i : Nat} (h : i < ch) : (Aud f ch).getD i 0 = unV f ch (ch - 1 - i) := by
 rw [Mx (by rw [Al8]; exact h)]; simp [Aud]
theorem Bqw (a b : Int32) : Bw (Ao (Ad a : Int) (Ad b : Int)) = some (a - b) := by
 have := Aby a
 have := Aby b
 rw [Ek, Ek, Bt (by omega) (by omega), Awt, Int32.ofInt_sub, Int32.ofInt_toInt, Int32.ofInt_toInt]
theorem Blj (a b : Int32) : Bw (Af (Ad a : Int) (Cn (Ad b : Int) (2 : Int))) = some (a + Cn b (2 : Int32)) := by
 have := Aby a
 have hb := Aby b
 have hd : -2147483648 ≤ b.toInt.tdiv 2 ∧ b.toInt.tdiv 2 ≤ 2147483648 := by
  rw [Int.tdiv_eq_ediv, show Int.sign 2 = 1 from rfl]
  by_cases h : 0 ≤ b.toInt ∨ 2 ∣ b.toInt
  ·rw [if_pos h]; omega
  ·rw [if_neg h]; omega
 have e : Cn b (2 : Int32) = Int32.ofInt (b.toInt.tdiv 2) := rfl
 rw [Ek, Ek, Ag3, Ca (by omega) (by omega), Ah (by omega) (by omega), Awt, Int32.ofInt_add, Int32.ofInt_toInt, e]
theorem Atj (seg z : List Int32) (ch : Nat) (h6 : ch ≤ 6) (hs : seg.length = ch) (hz : z.length = ch) : ∀ (i q : Nat), i + 1 ≤ ch → i < q →
  Ej seg q ((i : Int) - 1) (sel (fun k => decide (i ≤ k)) (Aud (fun i => seg.getD i 0) ch) z) = some (Aud (fun i => seg.getD i 0) ch)
 | 0, q + 1, hi, _ => by
  rw [Ej, Kf, if_neg (by rw [Dq]; simp), Atv (fun k hk => by simp)]; rfl
 | i + 1, q + 1, hi, hq => by
  have hlen := Al8 (fun i => seg.getD i 0) ch
  have e3 : Af (i : Int) 1 = ((i + 1 : Nat) : Int) := by rw [Ah (by omega) (by omega)]; omega
  have hv : (Aud (fun i => seg.getD i 0) ch).getD (i + 1) 0 - seg.getD i 0 = (Aud (fun i => seg.getD i 0) ch).getD i 0 := by
   rw [Auc _ (by omega), Auc _ (by omega), show ch - 1 - i = (ch - 1 - (i + 1)) + 1 by omega, unV, show ch - 2 - (ch - 1 - (i + 1)) = i by omega]
  rw [Ej, Kf, show ((i + 1 : Nat) : Int) - 1 = (i : Int) by omega, if_pos (by rw [Dq]; simp), e3, Aj9 (by omega), Aa, g32 (by omega), Aa, Aa, if_pos (by simp), Bqw, Aa, Aj9 (by omega), Aa, hv, Aty (by omega), Aa, Bt (by omega) (by omega)]
  have ih := Atj seg z ch h6 hs hz i q (by omega) (by omega)
  rw [← ih]
  congr 1
  apply Abr
  intro k _
  rw [Bool.eq_iff_iff]; simp; omega
theorem Bfh {l : List Int32} {i : Nat} (v : Int32) (h : i < l.length) : (l.set i v).getD i 0 = v := by
 rw [Mx (by rw [List.length_set]; exact h)]; simp
theorem Bhr (seg : List Int32) (ch : Nat) (h1 : 1 ≤ ch) (h6 : ch ≤ 6) (hs : seg.length = ch) : Oa seg = some (Aud (fun i => seg.getD i 0) ch) := by
 have hlen := Al8 (fun i => seg.getD i 0) ch
 have hzl : (List.replicate ch (0 : Int32)).length = ch := by simp
 have e1 : Ao (Ac seg) 1 = ((ch - 1 : Nat) : Int) := by rw [Ac, hs, Bt (by omega) (by omega)]; omega
 have e2 : Ao (Ac seg) 2 = ((ch - 1 : Nat) : Int) - 1 := by rw [Ac, hs, Bt (by omega) (by omega)]; omega
 have hlast := Auc (fun i => seg.getD i 0) (show ch - 1 < ch by omega)
 rw [show ch - 1 - (ch - 1) = 0 by omega, unV] at hlast
 have hend : ∀ z : List Int32, z.length = ch → z.getD (ch - 1) 0 = (Aud (fun i => seg.getD i 0) ch).getD (ch - 1) 0 → Ki seg z = some (Aud (fun i => seg.getD i 0) ch) := by
  intro z hz hzl
  have h := Atj seg z ch h6 hs hz (ch - 1) Ay (by omega) (by have := Aq; omega)
  have e : sel (fun k => decide (ch - 1 ≤ k)) (Aud (fun i => seg.getD i 0) ch) z = z := by
   apply List.ext_getElem (by rw [Ank, hlen, hz])
   intro k k1 k2
   rw [Abq]
   by_cases hk : ch - 1 ≤ k
   ·obtain rfl : k = ch - 1 := by omega
    rw [if_pos (by simp), ← hzl, Mx k2]
   ·rw [if_neg (by simpa using hk), Mx k2]
  rw [e] at h
  rw [Ki, Rh, e2]
  exact h
 rw [Oa, Rq, Ac, hs, Ays (by omega) (by omega), Aa, Cm (by rw [Az]; simp), Aa]
 rw [Ac, hs] at e1
 rw [Ac, hs] at e2
 have hz1 : (List.replicate (Int.toNat (ch : Int)) (0 : Int32)).length = ch := by simp
 have hs1 := g32 (l := seg) (k := ch - 1) (by omega)
 rw [e1, hs1, Aa, g32 (by omega), Aa, Za _ (by omega), Aa]
 by_cases hc : 1 < ch
 ·rw [if_pos hc] at hlast
  have e3 : ((ch - 1 : Nat) : Int) - 1 = ((ch - 2 : Nat) : Int) := by omega
  have hs2 := g32 (l := seg) (k := ch - 2) (by omega)
  rw [if_pos (by rw [As]; simp; omega), Aa, e2, e3, hs2, Aa, Blj, Aa, g32 (by rw [List.length_set]; omega), Aa, Za _ (by rw [List.length_set]; omega), Aa]
  refine hend _ (by simp) ?_
  rw [hlast, Bfh _ (by rw [List.length_set]; omega)]
 ·rw [if_neg hc] at hlast
  rw [if_neg (by rw [As]; simp; omega)]
  refine hend _ (by simp) ?_
  rw [hlast, Bfh _ (by omega)]
theorem Br8 (ch : Nat) (m : List Int32) (h1 : 1 ≤ ch) (h6 : ch ≤ 6) (hm : m.length % ch = 0) (hl2 : m.length ≤ 4000) : Mp (ch : Int) m = some 0 := by
 rw [Mp, if_neg (by simp [Ae, As]; omega), if_neg (by rw [As, Ac]; simp; omega), Cm (by rw [Aj]; simp; omega), Aa, if_neg]
 rw [As, Lk, Ac, ← Int.ofNat_tmod, hm]; simp
theorem Avd (ch : Nat) (m : List Int32) (h1 : 1 ≤ ch) (h6 : ch ≤ 6) (hm : m.length % ch = 0) (hl2 : m.length ≤ 4000) : ∀ (j at' q : Nat), at' % ch = 0 → at' ≤ m.length → m.length - at' ≤ j → j < q →
  Js (ch : Int) m q (at' : Int) ((unm ch m).take at') = some (unm ch m, 0)
 | j, at', q + 1, ha, hle, hj, hq => by
  have hlen := Aqt ch m
  rw [Js, Ya]
  by_cases h : at' < m.length
  ·have hb := Bgx ha hm h
   have e4 : Af (at' : Int) (ch : Int) = ((at' + ch : Nat) : Int) := by rw [Ah (by omega) (by omega)]; omega
   have hrest := Avd ch m h1 h6 hm hl2 (j - 1) (at' + ch) q (by rw [Nat.add_mod_right, ha]) hb (by omega) (by omega)
   have hseg : ((m.take (at' + ch)).drop at').length = ch := by simp; omega
   have htl : ((unm ch m).take at').length = at' := by simp [hlen]; omega
   rw [if_pos (by rw [Ae, Ac]; simp; omega), e4, Ag2 (by omega) (by omega) (by omega), Aa, show ((at' + ch : Nat) : Int).toNat = at' + ch from rfl, show (at' : Int).toNat = at' from rfl, Bhr _ ch h1 h6 hseg, Aa, Cc (by rw [htl, Al8]; omega), Aa]
   have e : (unm ch m).take at' ++ Aud (fun i => ((m.take (at' + ch)).drop at').getD i 0) ch = (unm ch m).take (at' + ch) := by
    apply List.ext_getElem (by rw [List.length_append, htl, Al8, List.length_take, hlen]; omega)
    intro k k1 k2
    rw [List.length_take, hlen] at k2
    rw [List.getElem_append, List.getElem_take]
    by_cases hk : k < at'
    ·rw [dif_pos (by rw [htl]; exact hk), List.getElem_take]
    ·rw [dif_neg (by rw [htl]; exact hk)]
     have hu := Awy (m := m) ha (show k - at' < ch by omega) (by omega)
     rw [show at' + (k - at') = k by omega, Mx (by omega)] at hu
     have hx : ∀ n, n ≤ ch → unV (fun i => ((m.take (at' + ch)).drop at').getD i 0) ch n = unV (fun i => m.getD (at' + i) 0) ch n := by
      have hf : ∀ i, i < ch → ((m.take (at' + ch)).drop at').getD i 0 = m.getD (at' + i) 0 := by
       intro i hi
       rw [Mx (by omega), Mx (by omega)]; simp
      intro n
      induction n with
      | zero =>
       intro _; rw [unV, unV, hf _ (by omega)]; split
       ·rw [hf _ (by omega)]
       ·rfl
      | succ n ih => intro hn; rw [unV, unV, ih (by omega), hf _ (by omega)]
     have hy := Auc (fun i => ((m.take (at' + ch)).drop at').getD i 0) (show k - at' < ch by omega)
     rw [Mx (by rw [Al8]; omega)] at hy
     rw [hu, ← hx _ (by omega), ← hy]
     congr 1
     rw [htl]
   rw [e]
   exact hrest
  ·rw [if_neg (by rw [Ae, Ac]; simp; omega), List.take_of_length_le (by omega)]; rfl
theorem Blu (ch : Nat) (m : List Int32) (h1 : 1 ≤ ch) (h6 : ch ≤ 6) (hm : m.length % ch = 0) (hl2 : m.length ≤ 4000) : Vz (ch : Int) m = some (unm ch m, 0) := by
 have h := Avd ch m h1 h6 hm hl2 m.length 0 Ay (by simp) (by omega) (by omega) (by have := Aq; omega)
 rw [Vz, Wz, Br8 ch m h1 h6 hm hl2, Aa, if_neg (by rw [Aj]; simp)]
 exact h
end Go.Pl
set_option linter.unusedVariables false
set_option linter.unusedSimpArgs false
namespace Go.Pl
open Go Go.Lv
def pre {α : Type} (ch c : Nat) (f : α → Nat → α) (a0 : α) : Nat → α
 | 0 => a0
 | m + 1 => if m % ch = c then f (pre ch c f a0 m) m else pre ch c f a0 m
theorem Bkm {α : Type} (ch c : Nat) (f : α → Nat → α) (a0 : α) : ∀ m, m ≤ c → c < ch → pre ch c f a0 m = a0
 | 0, _, _ => rfl
 | m + 1, h, h2 => by rw [pre, if_neg (by rw [Nat.mod_eq_of_lt (by omega)]; omega), Bkm ch c f a0 m (by omega) h2]
theorem Bhc {α : Type} (ch c i : Nat) (f : α → Nat → α) (a0 : α) (hi : i % ch = c) (hc : c < ch) : ∀ j, j < ch → pre ch c f a0 (i + 1 + j) = pre ch c f a0 (i + 1)
 | 0, _ => rfl
 | j + 1, h => by
  have hne : (i + 1 + j) % ch ≠ c := by
   intro e
   have h1 : (i + (1 + j)) % ch = i % ch := by rw [hi, ← e]; congr 1; omega
   have h2 : (1 + j) % ch = 0 := by
    have h3 := Nat.sub_mod_eq_zero_of_mod_eq h1
    rwa [Nat.add_sub_cancel_left] at h3
   rw [Nat.mod_eq_of_lt (by omega)] at h2; omega
  rw [show i + 1 + (j + 1) = (i + 1 + j) + 1 by omega, pre, if_neg hne, Bhc ch c i f a0 hi hc j (by omega)]
theorem Bqr {α : Type} (ch c i : Nat) (f : α → Nat → α) (a0 : α) (hi : i % ch = c) (hc : c < ch) : pre ch c f a0 (i + ch) = f (pre ch c f a0 i) i := by
 have h := Bhc ch c i f a0 hi hc (ch - 1) (by omega)
 rw [show i + 1 + (ch - 1) = i + ch by omega] at h
 rw [h, pre, if_pos hi]
abbrev CS := Int32 × List Int32 × List Int32
def Bo9 (bits : Int) (s : CS) (y : Int32) : Int32 := y + gF (sB bits) s.2.1 s.2.2 + gs (shB bits) s.1
def Bkw (bits : Int) (s : CS) (y : Int32) : CS := (Bo9 bits s y, lrn s.2.1 s.2.2 y, (y + gF (sB bits) s.2.1 s.2.2) :: s.2.2.take 15)
def cst (bits : Int) (ch : Nat) (t : List Int32) (v : List UInt32) (c : Nat) : Nat → CS := pre ch c (fun s i => Bkw bits s (Aon (v.getD i 0))) (0, t, List.replicate 16 0)
def OkC (bits : Int) (s : CS) : Prop := OkF (sB bits) s.2.1 s.2.2
theorem Bi3 (bits : Int) (ch : Nat) {t : List Int32} (ht : t.length = 16) (v : List UInt32) (c : Nat) : ∀ m, OkC bits (cst bits ch t v c m)
 | 0 => ⟨Bwj bits, ht, by simp [cst, pre]⟩
 | m + 1 => by
  have ih := Bi3 bits ch ht v c m
  rw [cst, pre]
  split
  ·exact Bqy ih _ _
  ·exact ih
def smp (bits : Int) (ch : Nat) (t : List Int32) (v : List UInt32) : List Int32 := (List.range v.length).map fun i => Bo9 bits (cst bits ch t v (i % ch) i) (Aon (v.getD i 0))
theorem Aq5 (bits : Int) (ch : Nat) (t : List Int32) (v : List UInt32) : (smp bits ch t v).length = v.length := by simp [smp]
theorem Bkq (bits : Int) (ch : Nat) (t : List Int32) (v : List UInt32) {i : Nat} (h : i < v.length) : (smp bits ch t v).getD i 0 = Bo9 bits (cst bits ch t v (i % ch) i) (Aon (v.getD i 0)) := by
 rw [Mx (by rw [Aq5]; exact h)]; simp [smp]
abbrev CL := Int × Int32 × (Int × (List Int32) × (List Int32) × Unit) × Unit
def toC (bits : Int) (s : CS) : CL := (bits, s.1, (sB bits, s.2.1, s.2.2, ()), ())
def cts (bits : Int) (ch : Nat) (t : List Int32) (v : List UInt32) (i : Nat) : List CL := (List.range 6).map fun c => toC bits (cst bits ch t v c i)
theorem Bsj {bits : Int} {ch : Nat} {t : List Int32} {v : List UInt32} {i c : Nat} (h : c < 6) : Al (cts bits ch t v i) (c : Int) = some (toC bits (cst bits ch t v c i)) := by
 rw [Cl (by simp [cts]; exact h)]; simp [cts]
theorem Bg3 (bits : Int) (ch : Nat) (t : List Int32) (v : List UInt32) (c m : Nat) : cst bits ch t v c (m + 1) = if m % ch = c then Bkw bits (cst bits ch t v c m) (Aon (v.getD m 0)) else cst bits ch t v c m := rfl
theorem Bsn {bits : Int} {ch : Nat} {t : List Int32} {v : List UInt32} {i c : Nat} (h : c < 6) (hc : i % ch = c) : Sa (cts bits ch t v i) (c : Int) (toC bits (Bkw bits (cst bits ch t v c i) (Aon (v.getD i 0)))) = some (cts bits ch t v (i + 1)) := by
 rw [Za _ (by simp [cts]; exact h)]
 congr 1
 apply List.ext_getElem (by simp [cts])
 intro k h1 h2
 rw [List.getElem_set]
 simp only [cts, List.getElem_map, List.getElem_range]
 by_cases hk : c = k
 ·subst hk; rw [if_pos rfl, Bg3, if_pos hc]
 ·rw [if_neg hk, Bg3, if_neg (by omega)]
section
variable {bits : Int} {ch : Nat} {t : List Int32} {v : List UInt32}
theorem Bgg (hb : Dg bits) (ht : t.length = 16) (h1 : 1 ≤ ch) (h6 : ch ≤ 6) (hv : v.length ≤ 4000) : ∀ (j i q : Nat), i + j = v.length → j < q →
  Ib v (ch : Int) bits q (i : Int) (cts bits ch t v i) ((smp bits ch t v).take i) = Lf (ch : Int) bits (smp bits ch t v)
 | 0, i, q + 1, hi, _ => by
  rw [Ib, Kz, if_neg (by rw [Ae, Ac]; simp; omega), List.take_of_length_le (by rw [Aq5]; omega)]
 | j + 1, i, q + 1, hi, hq => by
  have hlen := Aq5 bits ch t v
  have hc : i % ch < 6 := Nat.lt_of_lt_of_le (Nat.mod_lt _ (by omega)) h6
  have hok := Bi3 bits ch ht v (i % ch) i
  have hs := Bsn (bits := bits) (ch := ch) (t := t) (v := v) (i := i) hc rfl
  have hx := Bkq bits ch t v (i := i) (by omega)
  have hcb := Bnc hb hok (cst bits ch t v (i % ch) i).1 (Aon (v.getD i 0))
  have ih := Bgg hb ht h1 h6 hv j (i + 1) q (by omega) (by omega)
  rw [Al4 (by omega), ← Mx (by omega), hx] at ih
  rw [Ib, Kz, if_pos (by rw [Ae, Ac]; simp; omega), Ayv (by omega), Aa, Cm (by rw [Aj]; simp; omega), Aa, Azf, Bsj hc, Aa, Aa, Bqd, Aa]
  refine Eq.trans (congrArg (fun o => Option.bind o _) hcb) ?_
  rw [Aa]
  simp only
  rw [Zi, Ahm, if_neg (by rw [Aj]; simp), Azf]
  refine Eq.trans (congrArg (fun o => Option.bind o _) hs) ?_
  rw [Aa, Cc (by simp; omega), Aa, Ah (by omega) (by omega)]
  exact ih
theorem Bmu (hb : Dg bits) (ht : t.length = 16) (h1 : 1 ≤ ch) (h6 : ch ≤ 6) (hv : v.length ≤ 4000) : Ug (ch : Int) bits t v = Lf (ch : Int) bits (smp bits ch t v) := by
 have h := Bgg hb ht h1 h6 hv v.length 0 Ay (by omega) (by have := Aq; omega)
 have e : Ay = (Ay - 7) + 1 + 1 + 1 + 1 + 1 + 1 + 1 := by have := Aq; omega
 have hs : Qk v (ch : Int) bits t 0 (List.replicate 6 ((0 : Int), (0 : Int32), ((0 : Int), (List.replicate 16 (0 : Int32)), (List.replicate 16 (0 : Int32)), ()), ())) = Zm v (ch : Int) bits (cts bits ch t v 0) := by
  rw [Qk, e]
  obtain rfl | rfl | rfl := hb <;> rfl
 rw [Ug, Aar, hs]
 exact h
theorem Bcd (bk : Int → List Int32 → Option (List Int32)) (hb : Dg bits) (ht : t.length = 16) (h1 : 1 ≤ ch) (h6 : ch ≤ 6) (hv : v.length ≤ 4000) (z : List Int32) (c : Nat) (hc : c < ch) : ∀ (j i q : Nat), i % ch = c → v.length - i ≤ j → i ≤ 5000 → j < q →
  Hb bk v (ch : Int) bits t (c : Int) q (i : Int) (sel (fun k => decide (k % ch < c ∨ (k % ch = c ∧ k < i))) (smp bits ch t v) z) bits (cst bits ch t v c i).1 (sB bits) (cst bits ch t v c i).2.1 (cst bits ch t v c i).2.2 =
   bk ((c + 1 : Nat) : Int) (sel (fun k => decide (k % ch < c + 1)) (smp bits ch t v) z)
 | j, i, q + 1, hi, hj, hi5, hq => by
  have hlen := Aq5 bits ch t v
  rw [Hb, Jy]
  by_cases h : i < v.length
  ·have hok := Bi3 bits ch ht v c i
   have hst := Bmj hb hok (cst bits ch t v c i).1 (Aon (v.getD i 0))
   have hx := Bkq bits ch t v (i := i) h
   rw [hi] at hx
   have ih := Bcd bk hb ht h1 h6 hv z c hc (j - 1) (i + ch) q (by rw [Nat.add_mod_right]; exact hi) (by omega) (by omega) (by omega)
   have hstep : cst bits ch t v c (i + ch) = Bkw bits (cst bits ch t v c i) (Aon (v.getD i 0)) := Bqr ch c i _ _ hi hc
   rw [hstep] at ih
   have hset := Aty (p := fun k => decide (k % ch < c ∨ (k % ch = c ∧ k < i))) (a := smp bits ch t v) (b := z) (k := i) (by omega)
   rw [hx] at hset
   have hcong : sel (fun j => decide (j % ch < c ∨ (j % ch = c ∧ j < i)) || decide (j = i)) (smp bits ch t v) z = sel (fun k => decide (k % ch < c ∨ (k % ch = c ∧ k < i + ch))) (smp bits ch t v) z := by
    apply Abr
    intro k _
    rw [Bool.eq_iff_iff]
    simp only [Bool.or_eq_true, decide_eq_true_eq]
    constructor
    ·rintro ((h1 | h1) | h1)
     ·exact .inl h1
     ·exact .inr ⟨h1.1, by omega⟩
     ·subst h1; exact .inr ⟨hi, by omega⟩
    ·rintro (h1 | ⟨h1, h2⟩)
     ·exact .inl (.inl h1)
     ·by_cases h3 : k < i
      ·exact .inl (.inr ⟨h1, h3⟩)
      ·refine .inr ?_
       have h4 : (i + (k - i)) % ch = i % ch := by rw [show i + (k - i) = k by omega, h1, hi]
       have h5 := Nat.sub_mod_eq_zero_of_mod_eq h4
       rw [Nat.add_sub_cancel_left, Nat.mod_eq_of_lt (by omega)] at h5
       omega
   rw [hcong] at hset
   rw [if_pos (by rw [Ae, Ac]; simp; omega), Ayv h, Aa, Bsa, Aa]
   refine Eq.trans (congrArg (fun o => Option.bind o _) hst) ?_
   rw [Aa]
   simp only
   rw [Ry, Rv, Aj9 (by omega), Aa]
   refine Eq.trans (congrArg (fun o => Option.bind o _) hset) ?_
   rw [Aa, Re, Abl, Ah (by omega) (by omega)]
   exact ih
  ·rw [if_neg (by rw [Ae, Ac]; simp; omega), Rt, Abd, Ah (by omega) (by omega)]
   have hcong : sel (fun k => decide (k % ch < c ∨ (k % ch = c ∧ k < i))) (smp bits ch t v) z = sel (fun k => decide (k % ch < c + 1)) (smp bits ch t v) z := by
    apply Abr
    intro k hk
    rw [Bool.eq_iff_iff]
    simp only [decide_eq_true_eq]
    omega
   rw [hcong]; rfl
theorem Bbk (hb : Dg bits) (ht : t.length = 16) (h1 : 1 ≤ ch) (h6 : ch ≤ 6) (hv : v.length ≤ 4000) (z : List Int32) : ∀ (j c q : Nat), c + j = ch → j < q →
  Cz v (ch : Int) bits t q (c : Int) (sel (fun k => decide (k % ch < c)) (smp bits ch t v) z) = Jw (ch : Int) bits (smp bits ch t v)
 | 0, c, q + 1, hc, _ => by
  rw [Cz, Jv, if_neg (by rw [Ae]; simp; omega), Atv (fun k hk => by have := Nat.mod_lt k (show 0 < ch by omega); simp; omega)]
 | j + 1, c, q + 1, hc, hq => by
  have ih := Bbk hb ht h1 h6 hv z j (c + 1) q (by omega) (by omega)
  have hin := Bcd (Cz v (ch : Int) bits t q) hb ht h1 h6 hv z c (by omega) v.length c Ay (Nat.mod_eq_of_lt (by omega)) (by omega) (by omega) (by have := Aq; omega)
  have h0 : cst bits ch t v c c = (0, t, List.replicate 16 0) := Bkm ch c _ _ c (Nat.le_refl _) (by omega)
  rw [h0] at hin
  have hcong : sel (fun k => decide (k % ch < c ∨ (k % ch = c ∧ k < c))) (smp bits ch t v) z = sel (fun k => decide (k % ch < c)) (smp bits ch t v) z := by
   apply Abr
   intro k hk
   have := Nat.mod_le k ch
   rw [Bool.eq_iff_iff]
   simp only [decide_eq_true_eq]
   omega
  rw [hcong] at hin
  rw [Cz, Jv, if_pos (by rw [Ae]; simp; omega), Bv9 hb, Aa]
  simp only
  rw [Ro]
  exact Eq.trans hin ih
theorem Bln (hb : Dg bits) (ht : t.length = 16) (h1 : 1 ≤ ch) (h6 : ch ≤ 6) (hv : v.length ≤ 4000) (hm : v.length % ch = 0) : Ih (ch : Int) bits t v = some (unm ch (smp bits ch t v)) := by
 have hlen := Aq5 bits ch t v
 have h := Bbk hb ht h1 h6 hv (List.replicate v.length 0) ch 0 Ay (by omega) (by have := Aq; omega)
 rw [Atw (by rw [hlen]; simp) (fun k _ => by simp)] at h
 rw [Ih, Sp, Ac, Ays (by omega) (by omega), Aa, Cm (by rw [Az]; simp), Aa, Rc]
 refine Eq.trans h ?_
 rw [Jw, Aa6, Blu ch _ h1 h6 (by rw [hlen]; exact hm) (by omega), Aa]
end
def hB (bits : Int) : Int := if bits = 8 then 128 else if bits = 16 then 32768 else 8388608
theorem Bqc {bits : Int} (h : Dg bits) : Agl bits = some (Int32.ofInt (-(hB bits)), Int32.ofInt (hB bits - 1), 0) := by
 obtain rfl | rfl | rfl := h <;> decide
theorem Ayz {bits : Int} (h : Dg bits) : Kl bits = some (hB bits) := by
 obtain rfl | rfl | rfl := h <;> rfl
theorem Aur (bits : Int) : 0 < hB bits ∧ hB bits ≤ 8388608 := by
 unfold hB; split; · omega
 ·split <;> omega
theorem Az3 {bits : Int} (h : Dg bits) (l : List Int32) (hl : l.length ≤ 4000) : ∀ (j i q : Nat), i + j = l.length → j < q →
  Ri (Int32.ofInt (-(hB bits))) (Int32.ofInt (hB bits - 1)) l q (i : Int) = Bd l (hB bits) q (i : Int)
 | 0, i, q + 1, hi, _ => by
  rw [Ri, Ab6, Bd, Cv, if_neg (by rw [Ae, Ac]; simp; omega), if_neg (by rw [Ae, Ac]; simp; omega)]; rfl
 | j + 1, i, q + 1, hi, hq => by
  have hh := Aur bits
  have ih := Az3 h l hl j (i + 1) q (by omega) (by omega)
  have e1 : (Int32.ofInt (-(hB bits))).toInt = -(hB bits) := by rw [Int32.toInt_ofInt, Int.bmod_eq_of_le (by show -(4294967296 / 2 : Int) ≤ _; omega) (by show _ < (4294967296 + 1) / 2; omega)]
  have e2 : (Int32.ofInt (hB bits - 1)).toInt = hB bits - 1 := by rw [Int32.toInt_ofInt, Int.bmod_eq_of_le (by show -(4294967296 / 2 : Int) ≤ _; omega) (by show _ < (4294967296 + 1) / 2; omega)]
  rw [Ri, Ab6, Bd, Cv, if_pos (by rw [Ae, Ac]; simp; omega), if_pos (by rw [Ae, Ac]; simp; omega), g32 (by omega), Aa, Aa, Aa, Ek, Bh0, Ca (by omega) (by omega), Ah (by omega) (by omega), Bcy, Bih, e1, e2, Ae, Dq]
  generalize (l.getD i 0).toInt = X
  by_cases h1 : X < -(hB bits)
  ·rw [if_pos (by simp; omega), if_pos (by simp; omega)]
  ·rw [if_neg (c := decide (X < 0 - hB bits) = true) (by simp; omega)]
   by_cases h2 : hB bits ≤ X
   ·rw [if_pos (by simp; omega), if_pos (by simp; omega)]
   ·rw [if_neg (by simp; omega), if_neg (by simp; omega)]; exact ih
theorem Ayg {bits : Int} (h : Dg bits) (l : List Int32) (hl : l.length ≤ 4000) : Afw bits l = Bf bits l := by
 have hh := Aur bits
 rw [Afw, Ail, Bqc h, Aa, Bf, Gg, Ayz h, Aa]
 simp only
 rw [if_neg (by rw [Aj]; simp), if_neg (by rw [As, Ac]; simp; omega), if_neg (by rw [Az]; simp; omega), if_neg (by rw [As, Ac]; simp; omega)]
 exact Az3 h l hl l.length 0 Ay (by omega) (by have := Aq; omega)
theorem Bi8 {bits : Int} (h : Dg bits) (l : List Int32) (hl : l.length ≤ 4000) : ∃ e, Bf bits l = some e := by
 have hh := Aur bits
 have key : ∀ (j i q : Nat), i + j = l.length → j < q → ∃ e, Bd l (hB bits) q (i : Int) = some e := by
  intro j
  induction j with
  | zero =>
   intro i q hi hq
   obtain ⟨q, rfl⟩ : ∃ k, q = k + 1 := ⟨q - 1, by omega⟩
   rw [Bd, Cv, if_neg (by rw [Ae, Ac]; simp; omega)]
   exact ⟨_, rfl⟩
  | succ j ih =>
   intro i q hi hq
   obtain ⟨q, rfl⟩ : ∃ k, q = k + 1 := ⟨q - 1, by omega⟩
   rw [Bd, Cv, if_pos (by rw [Ae, Ac]; simp; omega), g32 (by omega), Aa, Aa, Ah (by omega) (by omega)]
   split
   ·exact ⟨_, rfl⟩
   ·split
    ·exact ⟨_, rfl⟩
    ·exact ih (i + 1) q (by omega) (by omega)
 obtain ⟨e, he⟩ := key l.length 0 Ay (by omega) (by have := Aq; omega)
 rw [Bf, Gg, Ayz h, Aa, if_neg (by rw [Az]; simp; omega), if_neg (by rw [As, Ac]; simp; omega)]
 exact ⟨e, he⟩
theorem As3 {bits : Int} {ch : Nat} {t : List Int32} {v : List UInt32} (hb : Dg bits) (ht : t.length = 16) (h1 : 1 ≤ ch) (h6 : ch ≤ 6) (hv : v.length ≤ 4000) (hm : v.length % ch = 0) :
  ∃ l e, Ih (ch : Int) bits t v = some l ∧ Kv (ch : Int) bits l = some (if e ≠ 0 then ([], e) else (l, 0)) ∧ Ug (ch : Int) bits t v = some (if e ≠ 0 then ([], e) else (l, 0)) ∧ Bf bits l = some e ∧ l.length = v.length := by
 have hlen := Aq5 bits ch t v
 have hul := Aqt ch (smp bits ch t v)
 obtain ⟨e, he⟩ := Bi8 hb (unm ch (smp bits ch t v)) (by omega)
 refine ⟨unm ch (smp bits ch t v), e, Bln hb ht h1 h6 hv hm, ?_, ?_, he, by omega⟩
 ·rw [Kv, he, Aa]
  by_cases h : e = 0
  ·rw [if_neg (by rw [Aj]; simpa using h), if_neg (by simpa using h)]
  ·rw [if_pos (by rw [Aj]; simpa using h), if_pos h]
 ·rw [Bmu hb ht h1 h6 hv, Lf, Ahp, Bs8 ch _ h1 h6 (by rw [hlen]; exact hm) (by omega), Aa]
  simp only
  rw [if_neg (by rw [Aj]; simp), Ayg hb _ (by omega), he, Aa]
  by_cases h : e = 0
  ·rw [if_neg (by rw [Aj]; simpa using h), if_neg (by simpa using h)]
  ·rw [if_pos (by rw [Aj]; simpa using h), if_pos h]
end Go.Pl
set_option linter.unusedVariables false
set_option linter.unusedSimpArgs false
namespace Go.Pl
open Go Go.Lv
def Aqa (s : Nat) : Nat := (s / 2) ^^^ (if s % 2 = 1 then 3988292384 else 0)
theorem Az1 {s : Nat} (h : s < 4294967296) : Aqa s < 4294967296 := by
 unfold Aqa
 exact Nat.xor_lt_two_pow (n := 32) (by simp; omega) (by split <;> decide)
theorem Bes (x y : Nat) : (x ^^^ y) / 2 = (x / 2) ^^^ (y / 2) := by
 have := Nat.shiftRight_xor_distrib (a := x) (b := y) (i := 1)
 simpa [Nat.shiftRight_eq_div_pow] using this
theorem Blg (x y : Nat) : Aqa (x ^^^ y) = Aqa x ^^^ Aqa y := by
 have h : (x ^^^ y) % 2 = (x % 2 + y % 2) % 2 := by
  have := Nat.xor_mod_two_eq_one (a := x) (b := y)
  have h1 : (x ^^^ y) % 2 < 2 := Nat.mod_lt _ (by omega)
  omega
 simp only [Aqa, Bes, h]
 have hx : x % 2 = 0 ∨ x % 2 = 1 := by omega
 have hy : y % 2 = 0 ∨ y % 2 = 1 := by omega
 rcases hx with hx | hx <;> rcases hy with hy | hy <;> simp only [hx, hy] <;> simp
 ·rw [Nat.xor_assoc]
 ·rw [Nat.xor_assoc, Nat.xor_comm (y / 2), Nat.xor_assoc, Nat.xor_comm 3988292384 (y/2)]
 ·rw [Nat.xor_assoc, Nat.xor_comm 3988292384, Nat.xor_assoc, Nat.xor_self]; simp
def Yx : Nat → Nat → Nat
 | 0, s => s
 | k + 1, s => Yx k (Aqa s)
theorem Bba : ∀ (k x y : Nat), Yx k (x ^^^ y) = Yx k x ^^^ Yx k y
 | 0, _, _ => rfl
 | k + 1, x, y => by rw [Yx, Blg, Bba k]; rfl
theorem Bbw : ∀ (k h : Nat), Yx k (2 ^ k * h) = h
 | 0, h => by simp [Yx]
 | k + 1, h => by
  have : Aqa (2 ^ (k + 1) * h) = 2 ^ k * h := by
   rw [Nat.pow_succ, Nat.mul_comm (2 ^ k) 2, Nat.mul_assoc, Aqa, if_neg (by omega), Nat.mul_div_cancel_left _ (by omega)]; simp
  rw [Yx, this, Bbw k]
theorem Axc : ∀ (k : Nat) {s : Nat}, s < 4294967296 → Yx k s < 4294967296
 | 0, _, h => h
 | k + 1, _, h => Axc k (Az1 h)
def Avp (s c : Nat) : Nat := Yx 8 (s ^^^ c)
theorem Ayi {s c : Nat} (h : s < 4294967296) (hc : c < 256) : Avp s c < 4294967296 := Axc 8 (Nat.xor_lt_two_pow (n := 32) (by simpa using h) (by simp; omega))
theorem Bhb {s c : Nat} (hc : c < 256) : Avp s c = (s / 256) ^^^ Yx 8 ((s % 256) ^^^ c) := by
 have h : s = (2 ^ 8 * (s / 256)) ^^^ (s % 256) := by
  have h1 : s % 256 < 2 ^ 8 := by simpa using Nat.mod_lt s (by omega : 256 > 0)
  have := Nat.two_pow_add_eq_or_of_lt h1 (s / 256)
  have h2 : 2 ^ 8 * (s / 256) ||| s % 256 = (2 ^ 8 * (s / 256)) ^^^ (s % 256) := by
   apply Nat.eq_of_testBit_eq; intro i
   rw [Nat.testBit_or, Nat.testBit_xor]
   by_cases hi : i < 8
   ·have : (2 ^ 8 * (s / 256)).testBit i = false := by rw [Nat.testBit_two_pow_mul]; simp; omega
    rw [this]; simp
   ·have : (s % 256).testBit i = false := Nat.testBit_lt_two_pow (Nat.lt_of_lt_of_le h1 (Nat.pow_le_pow_right (by omega) (by omega)))
    rw [this]; simp
  omega
 rw [Avp]
 conv => lhs; rw [h]
 rw [Nat.xor_assoc, Bba, Bbw]
def Bl6 (s : Nat) (l : List UInt8) : Nat := l.foldl (fun s c => Avp s c.toNat) s
def Hq (b : List UInt8) : UInt32 := 4294967295 - UInt32.ofNat (Bl6 4294967295 b)
theorem Bsf (s : UInt32) (c : Nat) (hc : c < 256) : Vy s (Ad (Abu (UInt8.ofNat c) (2 : UInt8)) : Int) = some (UInt32.ofNat (s.toNat / 2 ^^^ (if (s.toNat ^^^ c) % 2 = 1 then 3988292384 else 0))) := by
 have h1 : (Ad (Abu (UInt8.ofNat c) (2 : UInt8)) : Int) = ((c % 2 : Nat) : Int) := by
  rw [Aic, Bss, UInt8.toNat_mod, UInt8.toNat_ofNat']
  show ((c % 256 % 2 : Nat) : Int) = _
  omega
 have h2 : geq (Abu s (2 : UInt32)) (1 : UInt32) = decide (s.toNat % 2 = 1) := by
  rw [Bd4, Bgp, Bool.eq_iff_iff]
  simp only [beq_iff_eq, decide_eq_true_eq]
  rw [← UInt32.toNat_inj, UInt32.toNat_mod]; rfl
 have h3 : Cn s (2 : UInt32) = UInt32.ofNat (s.toNat / 2) := by
  apply UInt32.toNat_inj.1
  rw [Bgc, UInt32.toNat_div, UInt32.toNat_ofNat']
  show s.toNat / 2 = _
  have := s.toNat_lt
  omega
 have h4 : Aaa (Cn s (2 : UInt32)) (3988292384 : UInt32) = UInt32.ofNat (s.toNat / 2 ^^^ 3988292384) := by
  apply UInt32.toNat_inj.1
  rw [h3, As9, UInt32.toNat_xor, UInt32.toNat_ofNat', UInt32.toNat_ofNat']
  have := s.toNat_lt
  rw [Nat.mod_eq_of_lt (a := s.toNat / 2) (by omega), Nat.mod_eq_of_lt]
  ·rfl
  ·exact Nat.xor_lt_two_pow (n := 32) (by omega) (by decide)
 have hx : (s.toNat ^^^ c) % 2 = (s.toNat % 2 + c % 2) % 2 := by
  have := Nat.xor_mod_two_eq_one (a := s.toNat) (b := c)
  have h1 : (s.toNat ^^^ c) % 2 < 2 := Nat.mod_lt _ (by omega)
  omega
 have hs : s.toNat % 2 = 0 ∨ s.toNat % 2 = 1 := by omega
 have hc2 : c % 2 = 0 ∨ c % 2 = 1 := by omega
 rw [Vy, Yh, h1, h2, hx]
 rcases hs with hs | hs <;> rcases hc2 with hc2 | hc2 <;> simp [hs, hc2, Az, Xw, Af3, As9, h3]
theorem Av1 : ∀ (j i q : Nat) (s : UInt32) (c : Nat), i + j = 8 → j < q → c < 2 ^ j → He q s (UInt8.ofNat c) (i : Int) = some (UInt32.ofNat (Yx j (s.toNat ^^^ c)))
 | 0, i, q + 1, s, c, hi, _, hc => by
  obtain rfl : i = 8 := by omega
  obtain rfl : c = 0 := by simpa using hc
  rw [He, Ox, if_neg (by rw [Ae]; simp), Yc, Afu, Yx]
  simp
 | j + 1, i, q + 1, s, c, hi, hq, hc => by
  have hc8 : c < 256 := Nat.lt_of_lt_of_le hc (show 2 ^ (j + 1) ≤ 2 ^ 8 from Nat.pow_le_pow_right (by omega) (by omega))
  rw [He, Ox, if_pos (by rw [Ae]; simp; omega), Bsf s c hc8, Aa, Ah (by omega) (by omega)]
  have e : Cn (UInt8.ofNat c) (2 : UInt8) = UInt8.ofNat (c / 2) := by
   apply UInt8.toNat_inj.1
   rw [Brh, UInt8.toNat_div, UInt8.toNat_ofNat', UInt8.toNat_ofNat']
   show c % 256 / 2 = _
   omega
  rw [e]
  have h := Av1 j (i + 1) q (UInt32.ofNat (s.toNat / 2 ^^^ (if (s.toNat ^^^ c) % 2 = 1 then 3988292384 else 0))) (c / 2) (by omega) (by omega) (by rw [Nat.pow_succ] at hc; omega)
  rw [show ((i : Int) + 1) = ((i + 1 : Nat) : Int) by omega, h, UInt32.toNat_ofNat', Yx]
  congr 3
  have := s.toNat_lt
  rw [Nat.mod_eq_of_lt, Aqa, Bes, Nat.xor_assoc, Nat.xor_assoc, Nat.xor_comm (c / 2)]
  exact Nat.xor_lt_two_pow (n := 32) (by omega) (by split <;> decide)
theorem Brb (s : UInt32) (c : UInt8) : Ac4 s c = some (UInt32.ofNat (Avp s.toNat c.toNat)) := by
 have h := Av1 8 0 Ay s c.toNat (by omega) (by have := Aq; omega) (by simpa using c.toNat_lt)
 rw [UInt8.ofNat_toNat] at h
 exact h
theorem Arn (b : List UInt8) (hb : b.length < 4611686018427387904) : ∀ (j i q : Nat) (s : UInt32), i + j = b.length → j < q → Fc b q s (i : Int) = some (UInt32.ofNat (Bl6 s.toNat (b.drop i)))
 | 0, i, q + 1, s, hi, _ => by
  rw [Fc, Lp, if_neg (by rw [Ae, Ac]; simp; omega), show i = b.length by omega, List.drop_length]
  simp [Tc, Adm, Bl6]
 | j + 1, i, q + 1, s, hi, hq => by
  have hlt : i < b.length := by omega
  rw [Fc, Lp, if_pos (by rw [Ae, Ac]; simp; omega), Cl hlt, Aa, Brb, Aa, Ah (by omega) (by omega)]
  have h := Arn b hb j (i + 1) q (UInt32.ofNat (Avp s.toNat b[i].toNat)) (by omega) (by omega)
  rw [show ((i : Int) + 1) = ((i + 1 : Nat) : Int) by omega, h, drop_cons hlt, UInt32.toNat_ofNat', Nat.mod_eq_of_lt (Ayi s.toNat_lt b[i].toNat_lt)]
  rfl
theorem Bn3 (b : List UInt8) (hb : b.length < 4611686018427387904) : Nw b = some (Hq b) := by
 have h := Arn b hb b.length 0 Ay 4294967295 (by omega) (by have := Aq; omega)
 rw [Nw, Ze, Ts, Tv, show ((0 : Int)) = ((0 : Nat) : Int) from rfl, h, Aa, Bez]; rfl
theorem Bto (c : UInt32) : Aaa (Cg c (GI.toZ (1 : UInt64)).toNat) (Bp (3988292384 : UInt32) (Jg c (1 : UInt32))) = UInt32.ofNat (Aqa c.toNat) := by
 apply UInt32.toNat_inj.1
 have e : (GI.toZ (1 : UInt64)).toNat = 1 := rfl
 have h1 : (Cg c 1).toNat = c.toNat / 2 := by rw [Al1]
 have h2 : (Bp (3988292384 : UInt32) (Jg c (1 : UInt32))).toNat = if c.toNat % 2 = 1 then 3988292384 else 0 := by
  rw [Bpo, Bge, UInt32.toNat_mul, UInt32.toNat_and]
  show 3988292384 * (c.toNat &&& 1) % 4294967296 = _
  rw [Nat.and_one_is_mod]
  have : c.toNat % 2 = 0 ∨ c.toNat % 2 = 1 := by omega
  rcases this with h | h <;> simp [h]
 rw [e, As9, UInt32.toNat_xor, h1, h2, UInt32.toNat_ofNat', Nat.mod_eq_of_lt (Az1 c.toNat_lt)]; rfl
theorem Bfk (bk16 : Int → List UInt32 → Option (UInt32 × Int)) (s : UInt32) (b : List UInt8) (x : Int) (t : List UInt32) : ∀ (j i q : Nat) (c : UInt32), i + j = 8 → j < q →
  Rs bk16 s b x t q c (i : Int) = Adn bk16 s b x (UInt32.ofNat (Yx j c.toNat)) t
 | 0, i, q + 1, c, hi, _ => by
  obtain rfl : i = 8 := by omega
  rw [Rs, Abx, if_neg (by rw [Ae]; simp), Yx, UInt32.ofNat_toNat]
 | j + 1, i, q + 1, c, hi, hq => by
  rw [Rs, Abx, if_pos (by rw [Ae]; simp; omega), Bto, Ah (by omega) (by omega), show ((i : Int) + 1) = ((i + 1 : Nat) : Int) by omega, Bfk bk16 s b x t j (i + 1) q _ (by omega) (by omega), UInt32.toNat_ofNat', Nat.mod_eq_of_lt (Az1 c.toNat_lt)]; rfl
def tbl (n : Nat) : List UInt32 := (List.range n).map fun i => UInt32.ofNat (Yx 8 i)
theorem Bjp (s : UInt32) (b : List UInt8) : ∀ (j i q : Nat), i + j = 256 → j < q → Me s b q (i : Int) (tbl i ++ List.replicate j 0) = Acf s b (tbl 256)
 | 0, i, q + 1, hi, _ => by
  obtain rfl : i = 256 := by omega
  rw [Me, Acn, if_neg (by rw [Ae]; simp)]; simp
 | j + 1, i, q + 1, hi, hq => by
  have hlen : (tbl i ++ List.replicate (j + 1) 0).length = i + (j + 1) := by simp [tbl]
  rw [Me, Acn, if_pos (by rw [Ae]; simp; omega), Ajp]
  have h := Bfk (Me s b q) s b (i : Int) (tbl i ++ List.replicate (j + 1) 0) 8 0 Ay (Ad (i : Int)) (by omega) (by have := Aq; omega)
  rw [show ((0 : Int)) = ((0 : Nat) : Int) from rfl, h, Adn, Ai4, Cl (by rw [hlen]; omega), Aa, Za _ (by rw [hlen]; omega), Aa, Aiw, Ap4, Ah (by omega) (by omega)]
  have e : (Ad (i : Int) : UInt32).toNat = i := by rw [Bbp, UInt32.toNat_ofNat', Nat.mod_eq_of_lt (by omega)]
  rw [e, List.replicate_succ, Aqu (by simp [tbl])]
  have h2 := Bjp s b j (i + 1) q (by omega) (by omega)
  have h3 : tbl (i + 1) = tbl i ++ [UInt32.ofNat (Yx 8 i)] := by simp [tbl, List.range_succ]
  rw [h3] at h2
  rw [show ((i : Int) + 1) = ((i + 1 : Nat) : Int) by omega, ← h2]
  simp
theorem Brd {i : Nat} (h : i < 256) : Al (tbl 256) (i : Int) = some (UInt32.ofNat (Yx 8 i)) := by
 rw [Cl (by simpa [tbl] using h)]; simp [tbl]
theorem Bog (s : UInt32) (c : UInt8) : Al (tbl 256) (GI.toZ (Aaa (Ad s : UInt8) c)) = some (UInt32.ofNat (Yx 8 ((s.toNat % 256) ^^^ c.toNat))) := by
 have e : GI.toZ (Aaa (Ad s : UInt8) c) = (((s.toNat % 256) ^^^ c.toNat : Nat) : Int) := by
  rw [Aa0, Bk9, UInt8.toNat_xor, Ar6, UInt8.toNat_ofNat']
 rw [e, Brd]
 exact Nat.xor_lt_two_pow (n := 8) (by simp; omega) (by simpa using c.toNat_lt)
theorem Bmg (s : UInt32) (c : UInt8) : Aaa (Cg s (GI.toZ (8 : UInt64)).toNat) (UInt32.ofNat (Yx 8 ((s.toNat % 256) ^^^ c.toNat))) = UInt32.ofNat (Avp s.toNat c.toNat) := by
 apply UInt32.toNat_inj.1
 have hlt : Yx 8 ((s.toNat % 256) ^^^ c.toNat) < 4294967296 := Axc 8 (Nat.xor_lt_two_pow (n := 32) (by simp; omega) (by have := c.toNat_lt; simp; omega))
 have e : (GI.toZ (8 : UInt64)).toNat = 8 := rfl
 rw [e, As9, UInt32.toNat_xor, Al1, UInt32.toNat_ofNat', UInt32.toNat_ofNat', Nat.mod_eq_of_lt hlt, Nat.mod_eq_of_lt (Ayi s.toNat_lt c.toNat_lt), Bhb c.toNat_lt]
theorem Be2 (b : List UInt8) (hb : b.length < 4611686018427387904) : ∀ (j i q : Nat) (s : UInt32), i + j = b.length → j < q → Qy b (tbl 256) q s (i : Int) = some (UInt32.ofNat (Bl6 s.toNat (b.drop i)), 0)
 | 0, i, q + 1, s, hi, _ => by
  rw [Qy, Adp, if_neg (by rw [Ae, Ac]; simp; omega), show i = b.length by omega, List.drop_length]
  simp [Aiy, Aqj, Bl6]
 | j + 1, i, q + 1, s, hi, hq => by
  have hlt : i < b.length := by omega
  rw [Qy, Adp, if_pos (by rw [Ae, Ac]; simp; omega), Cl hlt, Aa, Bog, Aa, Aa, Bmg, Ah (by omega) (by omega)]
  have h := Be2 b hb j (i + 1) q (UInt32.ofNat (Avp s.toNat b[i].toNat)) (by omega) (by omega)
  rw [show ((i : Int) + 1) = ((i + 1 : Nat) : Int) by omega, h, drop_cons hlt, UInt32.toNat_ofNat', Nat.mod_eq_of_lt (Ayi s.toNat_lt b[i].toNat_lt)]
  rfl
theorem Brx (s : UInt32) (b : List UInt8) (hb : b.length ≤ 100000) : Amx s b = some (UInt32.ofNat (Bl6 s.toNat b), 0) := by
 have h := Bjp s b 256 0 Ay (by omega) (by have := Aq; omega)
 have h2 := Be2 b (by omega) b.length 0 Ay s (by omega) (by have := Aq; omega)
 rw [Amx, Akv, if_neg (by rw [As, Ac]; simp; omega), Ajd]
 refine Eq.trans h ?_
 rw [Acf, Ai1, Ajx, Ajg, Aie]
 exact h2
theorem Bo0 (a : UInt32) : Ay3 a = 4294967295 - a := by
 have h := a.toNat_lt
 have e : Ay3 a = UInt32.ofNat (BitVec.ofInt 32 4294967295 ^^^ BitVec.ofInt 32 (a.toNat : Int)).toNat := Dw _
 apply UInt32.toNat_inj.1
 rw [e, UInt32.toNat_ofNat', UInt32.toNat_sub_of_le _ _ (by rw [UInt32.le_iff_toNat_le]; show a.toNat ≤ 4294967295; omega)]
 have h1 : BitVec.ofInt 32 (a.toNat : Int) = a.toBitVec := Bda a
 have h2 : (BitVec.ofInt 32 4294967295 : BitVec 32) = BitVec.allOnes 32 := by decide
 rw [h1, h2, BitVec.allOnes_xor, BitVec.toNat_not]
 show (4294967296 - 1 - a.toNat) % 4294967296 = 4294967295 - a.toNat
 omega
theorem Bil (b : List UInt8) (hb : b.length ≤ 100000) : Ah6 b = some (Hq b, 0) := by
 rw [Ah6, Brx _ _ hb, Aa]
 simp only [Aj, Bo0]
 rfl
end Go.Pl
set_option linter.unusedVariables false
set_option linter.unusedSimpArgs false
namespace Go.Pl
open Go Go.Lv
theorem Bke : ∀ {l m : List UInt8}, l.length = m.length → Du l = Du m → l = m
 | [], [], _, _ => rfl
 | x :: l, y :: m, h, e => by
  simp only [Du] at e
  have hx := x.toNat_lt
  have hy := y.toNat_lt
  have h1 : x = y := UInt8.toNat_inj.1 (by omega)
  rw [h1, Bke (l := l) (m := m) (by simpa using h) (by omega)]
theorem Bcu : ∀ (w n : Nat), Du (leB n w) = n % 256 ^ w
 | 0, n => by simp [leB, Du, Nat.mod_one]
 | w + 1, n => by
  rw [leB, Du, Bcu w (n / 256), UInt8.toNat_ofNat', show (256 : Nat) ^ (w + 1) = 256 * 256 ^ w by rw [Nat.pow_succ, Nat.mul_comm], Nat.mod_mul]
def Wo (b : List UInt8) : Int :=
 if b.length < 5 then 24 else if 41254 < b.length then 4 else if (Hq (b.take (b.length - 4))).toNat ≠ Du (b.drop (b.length - 4)) then 22 else 0
theorem Bey (b : List UInt8) : Ac2 b = some (if Wo b ≠ 0 then ([], Wo b) else (b.take (b.length - 4), 0)) := by
 rw [Ac2]
 by_cases h1 : b.length < 5
 ·have hS : Wo b = 24 := by rw [Wo, if_pos h1]
  rw [if_pos (by rw [Ae, Ac]; simp; omega), hS]; rfl
 rw [if_neg (by rw [Ae, Ac]; simp; omega)]
 by_cases h2 : 41254 < b.length
 ·have hS : Wo b = 4 := by rw [Wo, if_neg h1, if_pos h2]
  rw [if_pos (by rw [As, Ac]; simp; omega), hS]; rfl
 have e4 : Ao (Ac b) 4 = ((b.length - 4 : Nat) : Int) := by rw [Ac, Bt (by omega) (by omega)]; omega
 have hd : (b.drop (b.length - 4)).length = 4 := by simp; omega
 rw [if_neg (by rw [As, Ac]; simp; omega), e4, Dc (by omega) (by omega), Aa, show ((b.length - 4 : Nat) : Int).toNat = b.length - 4 from rfl, Bil _ (by simp; omega), Aa]
 simp only
 rw [if_neg (by rw [Aj]; simp), Cp (by omega) (by omega), Aa, show ((b.length - 4 : Nat) : Int).toNat = b.length - 4 from rfl, Bfx _ (by omega) (by omega), Aa]
 have hne : Bn (leU (b.drop (b.length - 4))) (Ad (Hq (b.take (b.length - 4))) : UInt64) = decide ((Hq (b.take (b.length - 4))).toNat ≠ Du (b.drop (b.length - 4))) := by
  have hlt := (Hq (b.take (b.length - 4))).toNat_lt
  rw [Ahz, Bool.eq_iff_iff]
  simp only [bne_iff_ne, ne_eq, ← UInt64.toNat_inj, decide_eq_true_eq]
  rw [Aj4 (by omega), Ik, UInt64.toNat_ofNat', Nat.mod_eq_of_lt (by omega)]
  exact ⟨fun h e => h e.symm, fun h e => h e.symm⟩
 simp only
 rw [hne, Aa]
 by_cases h3 : (Hq (b.take (b.length - 4))).toNat ≠ Du (b.drop (b.length - 4))
 ·have hS : Wo b = 22 := by rw [Wo, if_neg h1, if_neg h2, if_pos h3]
  rw [if_pos (by simp [h3]), hS]; rfl
 ·have hS : Wo b = 0 := by rw [Wo, if_neg h1, if_neg h2, if_neg h3]
  rw [if_neg (by rw [decide_eq_false h3]; decide), hS]; rfl
theorem Bm3 (b : List UInt8) (hb : b.length ≤ 1000000) : Ql b = some (b ++ leB (Hq b).toNat 4) := by
 have h : ∀ k : Nat, (Ad (Cg (Hq b) k) : UInt8) = UInt8.ofNat ((Hq b).toNat / 2 ^ k) := by
  intro k; rw [Ar6, Al1]
 have h0 : (Ad (Hq b) : UInt8) = UInt8.ofNat (Hq b).toNat := Ar6 _
 have h1 := h 8
 have h2 := h 16
 have h3 := h 24
 rw [Ql, Bn3 b (by omega), Aa, Cc (by simp; omega), Aa, Cc (by simp; omega), Aa, h0, show (GI.toZ (8 : UInt64)).toNat = 8 from rfl, show (GI.toZ (16 : UInt64)).toNat = 16 from rfl, show (GI.toZ (24 : UInt64)).toNat = 24 from rfl, h1, h2, h3]
 simp only [leB, Nat.div_div_eq_div_mul, List.nil_append]
theorem Aze (b : List UInt8) : Ld b = some (Wo b) := by
 rw [Ld]
 by_cases h1 : b.length < 5
 ·rw [if_pos (by rw [Ae, Ac]; simp; omega), Wo, if_pos h1]
 rw [if_neg (by rw [Ae, Ac]; simp; omega)]
 by_cases h2 : 41254 < b.length
 ·rw [if_pos (by rw [As, Ac]; simp; omega), Wo, if_neg h1, if_pos h2]
 have e4 : Ao (Ac b) 4 = ((b.length - 4 : Nat) : Int) := by rw [Ac, Bt (by omega) (by omega)]; omega
 have hd : (b.drop (b.length - 4)).length = 4 := by simp; omega
 rw [if_neg (by rw [As, Ac]; simp; omega), e4, Dc (by omega) (by omega), Aa, show ((b.length - 4 : Nat) : Int).toNat = b.length - 4 from rfl, Bm3 _ (by simp; omega), Aa]
 have hlt := (Hq (b.take (b.length - 4))).toNat_lt
 have hiff : (b.take (b.length - 4) ++ leB (Hq (b.take (b.length - 4))).toNat 4 != b) = decide ((Hq (b.take (b.length - 4))).toNat ≠ Du (b.drop (b.length - 4))) := by
  rw [Bool.eq_iff_iff]
  simp only [bne_iff_ne, ne_eq, decide_eq_true_eq]
  constructor
  ·intro h e
   apply h
   have : leB (Hq (b.take (b.length - 4))).toNat 4 = b.drop (b.length - 4) := Bke (by rw [Qm, hd]) (by rw [Bcu, Nat.mod_eq_of_lt (by omega), e])
   rw [this, List.take_append_drop]
  ·intro h e
   apply h
   have hx : leB (Hq (b.take (b.length - 4))).toNat 4 = b.drop (b.length - 4) := by
    have e2 : b.take (b.length - 4) ++ leB (Hq (b.take (b.length - 4))).toNat 4 = b.take (b.length - 4) ++ b.drop (b.length - 4) := by rw [e, List.take_append_drop]
    exact List.append_cancel_left e2
   rw [← hx, Bcu, Nat.mod_eq_of_lt (by omega)]
 rw [hiff]
 by_cases h3 : (Hq (b.take (b.length - 4))).toNat ≠ Du (b.drop (b.length - 4))
 ·rw [if_pos (by simp [h3]), Wo, if_neg h1, if_neg h2, if_pos h3]
 ·rw [if_neg (by rw [decide_eq_false h3]; decide), Wo, if_neg h1, if_neg h2, if_neg h3]
theorem Bf3 {b : List UInt8} (h : Wo b = 0) : 5 ≤ b.length ∧ b.length ≤ 41254 := by
 unfold Wo at h
 split at h
 ·simp at h
 ·split at h
  ·simp at h
  ·omega
theorem Bkx {c : Nat} (h1 : 1 ≤ c) (h6 : c ≤ 6) : Cn (4000 : Int) (c : Int) = ((4000 / c : Nat) : Int) := by
 have : c = 1 ∨ c = 2 ∨ c = 3 ∨ c = 4 ∨ c = 5 ∨ c = 6 := by omega
 rcases this with rfl | rfl | rfl | rfl | rfl | rfl <;> rfl
theorem Bsk (p : List UInt8) (h : p.length ≤ 41250) : okB p (8 * p.length) := ⟨by omega, by omega, fun k h1 h2 => by omega⟩
theorem Avo {bits : Int} {ch n : Nat} {t : List Int32} (b : List UInt8) (hb : Dg bits) (ht : t.length = 16) (h1 : 1 ≤ ch) (h6 : ch ≤ 6) (n1 : 1 ≤ n) (n2 : n ≤ 4000 / ch) :
  ∃ l e, Wy (ch : Int) bits t (n : Int) b = some (l, e) ∧ Ig (ch : Int) bits t (n : Int) b = some (l, e) ∧ (e = 0 → Bf bits l = some 0 ∧ l.length ≤ 4000 ∧ l.length = n * ch) ∧ (e ≠ 0 → l = []) := by
 have hn : n * ch ≤ 4000 := by
  have := Nat.mul_le_mul_right ch n2
  have h2 := Nat.div_mul_le_self 4000 ch
  omega
 have hq4 := Bkx h1 h6
 generalize 4000 / ch = mm at *
 have hck : Afa (ch : Int) bits = some 0 := by
  have hr : ∃ x y, Agl bits = some (x, y, 0) := ⟨_, _, Bqc hb⟩
  obtain ⟨x, y, hr⟩ := hr
  rw [Afa, hr, Aa]
  simp only
  rw [if_neg (by simp [Aj, Ae, As]; omega)]
 have hh := Aur bits
 have hasked : Ja (ch : Int) bits (n : Int) = some 0 := by
  rw [Ja, Sy, if_neg (by simp [Ae, As]; omega), Ayz hb, Aa, if_neg (by rw [Az]; simp; omega), Aa, if_neg (by simp [Aj, Ae]; omega), Cm (by rw [Aj]; simp; omega), Aa, hq4, if_neg (by rw [As]; simp; omega)]
 rw [Wy, Ig, Lh, hck, hasked, Aa, Aa, if_neg (by rw [Aj]; simp), if_neg (by rw [Ae]; simp; omega), Cm (by rw [Aj]; simp; omega), Aa, hq4, if_neg (by rw [As]; simp; omega), if_neg (by rw [Aj]; simp), Bey, Aze]
 by_cases hs : Wo b ≠ 0
 ·rw [if_pos hs]
  simp only [Aa]
  rw [if_pos (by rw [Aj]; simpa using hs), if_pos (by rw [Aj]; simpa using hs)]
  exact ⟨[], Wo b, rfl, rfl, fun e => absurd e hs, fun _ => rfl⟩
 have hs0 : Wo b = 0 := by simpa using hs
 have hlen := Bf3 hs0
 have e4 : Ao (Ac b) 4 = ((b.length - 4 : Nat) : Int) := by rw [Ac, Bt (by omega) (by omega)]; omega
 rw [if_neg hs, hs0]
 simp only [Aa]
 rw [if_neg (by rw [Aj]; simp), if_neg (by rw [Aj]; simp), e4, Dc (by omega) (by omega), Aa, show ((b.length - 4 : Nat) : Int).toNat = b.length - 4 from rfl]
 have hpl : (b.take (b.length - 4)).length = b.length - 4 := by simp
 generalize b.take (b.length - 4) = p at *
 have e8 : Bp (8 : Int) (Ac p) = ((8 * p.length : Nat) : Int) := by rw [Ac, Ip (by omega) (by omega)]; omega
 have hp := Bsk p (by omega)
 have hv := values_eq hp h1 h6 hn
 have hr := Bkv (N := 8 * p.length) (p := p) rfl (by omega) h1 h6 hn
 have hat := Awh (ch := ch) (p := p) (N := 8 * p.length) (n * ch) 0 [] (by omega)
 rw [Bc4, if_neg (by rw [As, Ac]; simp; omega), Hl, Cc (by simp; omega), Aa, Aa, Aa, List.nil_append, e8]
 simp only
 rw [if_neg (by rw [Aj]; simp), hv, hr, Aa, Aa]
 generalize Yn ch p (8 * p.length) (n * ch) 0 [] = V at *
 obtain ⟨v, at', e⟩ := V
 simp only at *
 by_cases he : e ≠ 0
 ·rw [if_pos he, if_pos he]
  simp only
  rw [if_pos (by rw [Aj]; simpa using he), Fa, Dk, if_pos (by rw [Aj]; simpa using he)]
  exact ⟨[], e, rfl, rfl, fun h => absurd h he, fun _ => rfl⟩
 have he0 : e = 0 := by simpa using he
 have hvl := hat.2.2 he0
 simp only [List.length_nil, Nat.zero_add] at hvl
 rw [if_neg he, if_neg he]
 simp only
 rw [if_neg (by rw [Aj]; simp), Bt (by omega) (by omega), show ((8 * p.length : Nat) : Int) - (at' : Int) = ((8 * p.length - at' : Nat) : Int) by omega, Fa, Dk]
 by_cases h7 : 7 < 8 * p.length - at'
 ·have hE : (if 7 < 8 * p.length - at' ∨ Bz p at' (8 * p.length - at') ≠ 0 then (12 : Int) else 0) = 12 := if_pos (.inl h7)
  rw [if_pos (by rw [Dq]; simp; omega), hE, if_pos (by decide)]
  exact ⟨[], 12, rfl, rfl, fun h => absurd h (by decide), fun _ => rfl⟩
 rw [if_neg (by rw [Dq]; simp; omega), Auz hp at' _ (by omega), if_neg (by omega), Aa]
 have hz : Bn (Xk p at' (8 * p.length - at')) (0 : UInt64) = decide (Bz p at' (8 * p.length - at') ≠ 0) := by
  rw [Ahz, Bool.eq_iff_iff]
  simp only [bne_iff_ne, ne_eq, ← UInt64.toNat_inj, decide_eq_true_eq]
  rw [Acb p _ _ (by omega)]; rfl
 simp only
 rw [hz]
 by_cases hv0 : Bz p at' (8 * p.length - at') ≠ 0
 ·have hE : (if 7 < 8 * p.length - at' ∨ Bz p at' (8 * p.length - at') ≠ 0 then (12 : Int) else 0) = 12 := if_pos (.inr hv0)
  rw [if_pos (by simp [hv0]), hE, if_pos (by decide)]
  exact ⟨[], 12, rfl, rfl, fun h => absurd h (by decide), fun _ => rfl⟩
 have hm : v.length % ch = 0 := by rw [hvl]; exact Nat.mul_mod_left n ch
 obtain ⟨l, e, g1, g2, g3, g4, g5⟩ := As3 (v := v) hb ht h1 h6 (by omega) hm
 have hE : (if 7 < 8 * p.length - at' ∨ Bz p at' (8 * p.length - at') ≠ 0 then (12 : Int) else 0) = 0 := if_neg (by omega)
 rw [if_neg (by rw [decide_eq_false hv0]; decide), hE, if_neg (by decide), g1, g3, Aa, Aa, g2]
 by_cases hl : e ≠ 0
 ·rw [if_pos hl]
  exact ⟨[], e, rfl, rfl, fun h => absurd h hl, fun _ => rfl⟩
 ·rw [if_neg hl]
  have hl0 : e = 0 := by simpa using hl
  exact ⟨l, 0, rfl, rfl, fun _ => ⟨by rw [g4, hl0], by omega, by omega⟩, fun e => absurd rfl e⟩
end Go.Pl
set_option linter.unusedVariables false
set_option linter.unusedSimpArgs false
namespace Go.Pl
open Go Go.Lv
def P64 : Nat := 4823603603198064275
def Agp (s : Nat) : Nat := (2 * s % 18446744073709551616) ^^^ (s / 9223372036854775808 * P64)
theorem Al3 {s : Nat} (h : s < 18446744073709551616) : Agp s < 18446744073709551616 := by
 have h1 : s / 9223372036854775808 = 0 ∨ s / 9223372036854775808 = 1 := by omega
 exact Nat.xor_lt_two_pow (n := 64) (Nat.mod_lt _ (by decide)) (by rcases h1 with e | e <;> rw [e] <;> decide)
theorem Bka (x y : Nat) : (x ^^^ y) / 9223372036854775808 = (x / 9223372036854775808) ^^^ (y / 9223372036854775808) := by
 have := Nat.shiftRight_xor_distrib (a := x) (b := y) (i := 63)
 simpa [Nat.shiftRight_eq_div_pow] using this
theorem Blb (x y : Nat) : 2 * (x ^^^ y) % 18446744073709551616 = (2 * x % 18446744073709551616) ^^^ (2 * y % 18446744073709551616) := by
 have h1 := Nat.shiftLeft_xor_distrib (a := x) (b := y) (i := 1)
 have h2 := Nat.xor_mod_two_pow (a := 2 * x) (b := 2 * y) (n := 64)
 have e : 2 * (x ^^^ y) = (2 * x) ^^^ (2 * y) := by simpa [Nat.shiftLeft_eq, Nat.mul_comm] using h1
 rw [e]; exact h2
theorem Btb {a b : Nat} (ha : a = 0 ∨ a = 1) (hb : b = 0 ∨ b = 1) (p : Nat) : (a ^^^ b) * p = (a * p) ^^^ (b * p) := by
 rcases ha with rfl | rfl <;> rcases hb with rfl | rfl <;> simp
theorem Bxs (a b c d : Nat) : (a ^^^ b) ^^^ (c ^^^ d) = (a ^^^ c) ^^^ (b ^^^ d) := by
 rw [Nat.xor_assoc, Nat.xor_assoc, ← Nat.xor_assoc b c d, Nat.xor_comm b c, Nat.xor_assoc c b d]
theorem Bjb {x y : Nat} (hx : x < 18446744073709551616) (hy : y < 18446744073709551616) : Agp (x ^^^ y) = Agp x ^^^ Agp y := by
 rw [Agp, Agp, Agp, Blb, Bka, Btb (by omega) (by omega), Bxs]
def Nv : Nat → Nat → Nat
 | 0, s => s
 | k + 1, s => Nv k (Agp s)
theorem Au4 : ∀ (k : Nat) {s : Nat}, s < 18446744073709551616 → Nv k s < 18446744073709551616
 | 0, _, h => h
 | k + 1, _, h => Au4 k (Al3 h)
theorem Ax8 : ∀ (k : Nat) {x y : Nat}, x < 18446744073709551616 → y < 18446744073709551616 → Nv k (x ^^^ y) = Nv k x ^^^ Nv k y
 | 0, _, _, _, _ => rfl
 | k + 1, x, y, hx, hy => by rw [Nv, Bjb hx hy, Ax8 k (Al3 hx) (Al3 hy)]; rfl
theorem Axy : ∀ (k h : Nat), 2 ^ k * h < 18446744073709551616 → Nv k h = 2 ^ k * h
 | 0, h, _ => by simp [Nv]
 | k + 1, h, hl => by
  have hpos : 0 < 2 ^ k := Nat.pow_pos (by omega)
  rw [Nat.pow_succ, Nat.mul_assoc] at hl
  have h2 : 2 * h < 18446744073709551616 := Nat.lt_of_le_of_lt (Nat.le_mul_of_pos_left _ hpos) hl
  have : Agp h = 2 * h := by rw [Agp, Nat.mod_eq_of_lt h2, show h / 9223372036854775808 = 0 by omega]; simp
  rw [Nv, this, Axy k _ hl, Nat.pow_succ, Nat.mul_assoc]
def Apw (s c : Nat) : Nat := Nv 8 (s ^^^ (c * 72057594037927936))
theorem c56 {c : Nat} (hc : c < 256) : c * 72057594037927936 < 18446744073709551616 := by omega
theorem Aum {s c : Nat} (h : s < 18446744073709551616) (hc : c < 256) : Apw s c < 18446744073709551616 := Au4 8 (Nat.xor_lt_two_pow (n := 64) h (c56 hc))
theorem Bsl (s : Nat) : s = (s / 72057594037927936 * 72057594037927936) ^^^ (s % 72057594037927936) := by
 have h1 : s % 72057594037927936 < 2 ^ 56 := Nat.mod_lt _ (by decide)
 have := Nat.two_pow_add_eq_or_of_lt h1 (s / 72057594037927936)
 have h2 : 2 ^ 56 * (s / 72057594037927936) ||| s % 72057594037927936 = (2 ^ 56 * (s / 72057594037927936)) ^^^ (s % 72057594037927936) := by
  apply Nat.eq_of_testBit_eq; intro i
  rw [Nat.testBit_or, Nat.testBit_xor]
  by_cases hi : i < 56
  ·have : (2 ^ 56 * (s / 72057594037927936)).testBit i = false := by rw [Nat.testBit_two_pow_mul]; simp; omega
   rw [this]; simp
  ·have : (s % 72057594037927936).testBit i = false := Nat.testBit_lt_two_pow (Nat.lt_of_lt_of_le h1 (Nat.pow_le_pow_right (by omega) (by omega)))
   rw [this]; simp
 rw [Nat.mul_comm (s / 72057594037927936)]
 show s = (2 ^ 56 * (s / 72057594037927936)) ^^^ _
 rw [← h2, ← this]
 have := Nat.div_add_mod s 72057594037927936
 show s = 72057594037927936 * _ + _
 omega
theorem Bmn (a c : Nat) : (a ^^^ c) * 72057594037927936 = (a * 72057594037927936) ^^^ (c * 72057594037927936) := by
 have h1 := Nat.shiftLeft_xor_distrib (a := a) (b := c) (i := 56)
 simpa [Nat.shiftLeft_eq] using h1
theorem Bcp {s c : Nat} (h : s < 18446744073709551616) (hc : c < 256) : Apw s c = (256 * s % 18446744073709551616) ^^^ Nv 8 (((s / 72057594037927936) ^^^ c) * 72057594037927936) := by
 have hs : s / 72057594037927936 < 2 ^ 8 := by show _ < 256; omega
 have hx : (s / 72057594037927936) ^^^ c < 256 := Nat.xor_lt_two_pow (n := 8) hs (by simpa using hc)
 have hl : s % 72057594037927936 < 72057594037927936 := Nat.mod_lt _ (by decide)
 rw [Apw]
 conv => lhs; rw [Bsl s]
 rw [Nat.xor_comm (s / 72057594037927936 * 72057594037927936), Nat.xor_assoc, ← Bmn, Ax8 8 (by omega) (c56 hx), Axy 8 _ (by show 256 * _ < _; omega)]
 congr 1
 show 256 * (s % 72057594037927936) = _
 omega
def Ax2 (s : Nat) (l : List UInt8) : Nat := l.foldl (fun s c => Apw s c.toNat) s
theorem Bam {n : Nat} (h : n < 18446744073709551616) : (UInt64.ofNat n).toNat = n := by rw [UInt64.toNat_ofNat']; exact Nat.mod_eq_of_lt h
theorem Bum (s : UInt64) (bit : Nat) (hb : bit = 0 ∨ bit = 1) : Vw s (bit : Int) = some (UInt64.ofNat ((2 * s.toNat % 18446744073709551616) ^^^ (((s.toNat / 9223372036854775808) ^^^ bit) * P64))) := by
 have hs := s.toNat_lt
 have ht : s.toNat / 9223372036854775808 = 0 ∨ s.toNat / 9223372036854775808 = 1 := by omega
 have e1 : (Bp s (2 : UInt64)).toNat = 2 * s.toNat % 18446744073709551616 := by
  rw [Afr, UInt64.toNat_mul]; show s.toNat * 2 % _ = _; rw [Nat.mul_comm]
 have hlt : 2 * s.toNat % 18446744073709551616 < 18446744073709551616 := Nat.mod_lt _ (by decide)
 have ey : Aaa (Bp s (2 : UInt64)) (4823603603198064275 : UInt64) = UInt64.ofNat ((2 * s.toNat % 18446744073709551616) ^^^ P64) := by
  apply UInt64.toNat_inj.1
  rw [Azt, UInt64.toNat_xor, e1, Bam (Nat.xor_lt_two_pow (n := 64) hlt (by decide))]; rfl
 have en : Bp s (2 : UInt64) = UInt64.ofNat (2 * s.toNat % 18446744073709551616) := by
  apply UInt64.toNat_inj.1
  rw [e1, Bam hlt]
 have eg : Ud s (9223372036854775808 : UInt64) = decide (s.toNat / 9223372036854775808 = 1) := by
  rw [Bre, decide_eq_decide]
  show 9223372036854775808 ≤ s.toNat ↔ _
  omega
 have hp : ∀ b : Bool, Nz s b = some (if b = true then UInt64.ofNat ((2 * s.toNat % 18446744073709551616) ^^^ P64) else UInt64.ofNat (2 * s.toNat % 18446744073709551616)) := by
  intro b
  rw [Nz, Af6, ey, en]; cases b <;> rfl
 rw [Vw, Wt, hp, hp, eg]
 rcases hb with rfl | rfl <;> rcases ht with h | h <;> rw [h] <;> simp [Az]
theorem Av7 (c : UInt8) : ∀ (j q : Nat) (s : UInt64), j ≤ 8 → j < q → Ha c q s ((2 ^ j / 2 : Nat) : Int) = some (UInt64.ofNat (Nv j (s.toNat ^^^ (c.toNat % 2 ^ j * 2 ^ (64 - j)))))
 | 0, q + 1, s, _, _ => by
  rw [Ha, Oo, if_neg (by rw [As]; simp), Xs, Af5]
  simp [Nv, Nat.mod_one]
 | j + 1, q + 1, s, hj, hq => by
  have hc := c.toNat_lt
  have hs := s.toNat_lt
  have hj2 : 2 ^ j ≤ 2 ^ 7 := Nat.pow_le_pow_right (by omega) (by omega)
  have hpos : 0 < 2 ^ j := Nat.pow_pos (by omega)
  have e1 : 2 ^ (j + 1) / 2 = 2 ^ j := by rw [Nat.pow_succ]; omega
  have e2 : Cn ((2 ^ j : Nat) : Int) 2 = ((2 ^ j / 2 : Nat) : Int) := by
   generalize 2 ^ j = K at *
   rw [Ag3, Int.tdiv_eq_ediv_of_nonneg (by omega), Ca (by omega) (by omega)]; omega
  have e3 : Lk (Cn (Ad c : Int) ((2 ^ j : Nat) : Int)) (2 : Int) = ((c.toNat / 2 ^ j % 2 : Nat) : Int) := by
   have hX := Nat.div_le_self c.toNat (2 ^ j)
   rw [Aic, Ag3, ← Int.ofNat_tdiv]
   generalize c.toNat / 2 ^ j = X at *
   rw [Ca (by omega) (by omega), Lk, Int.tmod_eq_emod_of_nonneg (by omega)]; omega
  have hbit : c.toNat / 2 ^ j % 2 = 0 ∨ c.toNat / 2 ^ j % 2 = 1 := by omega
  rw [Ha, Oo, e1, if_pos (by rw [As, decide_eq_true_eq]; omega), Cm (by rw [Aj, bne_iff_ne]; omega), Aa, e3, Bum s _ hbit, Aa, e2, Av7 c j q _ (by omega) (by omega)]
  congr 2
  rw [Nv]
  congr 1
  have hx : c.toNat % 2 ^ (j + 1) * 2 ^ (64 - (j + 1)) = (c.toNat / 2 ^ j % 2) * 9223372036854775808 + c.toNat % 2 ^ j * 2 ^ (63 - j) := by
   have h63 : (9223372036854775808 : Nat) = 2 ^ j * 2 ^ (63 - j) := by rw [← Nat.pow_add, show j + (63 - j) = 63 by omega]
   rw [Nat.mod_pow_succ, h63, show 64 - (j + 1) = 63 - j by omega, Nat.add_mul, Nat.add_comm, Nat.mul_assoc, Nat.mul_left_comm]
  have hr : c.toNat % 2 ^ j < 2 ^ j := Nat.mod_lt _ hpos
  have hb63 : c.toNat % 2 ^ j * 2 ^ (63 - j) < 9223372036854775808 := by
   have h63 : (9223372036854775808 : Nat) = 2 ^ j * 2 ^ (63 - j) := by rw [← Nat.pow_add, show j + (63 - j) = 63 by omega]
   rw [h63]; exact Nat.mul_lt_mul_of_pos_right hr (Nat.pow_pos (by omega))
  have h64 : c.toNat % 2 ^ j * 2 ^ (64 - j) = 2 * (c.toNat % 2 ^ j * 2 ^ (63 - j)) := by
   rw [show 64 - j = (63 - j) + 1 by omega, Nat.pow_succ, ← Nat.mul_assoc, Nat.mul_comm]
  rw [hx, h64]
  generalize c.toNat % 2 ^ j * 2 ^ (63 - j) = R at *
  generalize c.toNat / 2 ^ j % 2 = b at *
  have ht : s.toNat / 9223372036854775808 = 0 ∨ s.toNat / 9223372036854775808 = 1 := by omega
  have hp : ((s.toNat / 9223372036854775808 ^^^ b) * P64) < 18446744073709551616 := by
   rcases ht with h | h <;> rcases hbit with h2 | h2 <;> rw [h, h2] <;> decide
  rw [Bam (Nat.xor_lt_two_pow (n := 64) (Nat.mod_lt _ (by decide)) hp), Agp, Blb, Bka, show (b * 9223372036854775808 + R) / 9223372036854775808 = b by omega, show 2 * (b * 9223372036854775808 + R) % 18446744073709551616 = 2 * R by omega, Nat.xor_assoc, Nat.xor_assoc, Nat.xor_comm (2 * R)]
theorem Buf (c : UInt8) (s : UInt64) : Ab8 s c = some (UInt64.ofNat (Apw s.toNat c.toNat)) := by
 have h := Av7 c 8 Ay s (Nat.le_refl _) (by have := Aq; omega)
 have hc := c.toNat_lt
 rw [Nat.mod_eq_of_lt (show c.toNat < 2 ^ 8 by simpa using hc)] at h
 exact h
theorem Ari (b : List UInt8) (hb : b.length < 4611686018427387904) : ∀ (j i q : Nat) (s : UInt64), i + j = b.length → j < q → Fb b q s (i : Int) = some (UInt64.ofNat (Ax2 s.toNat (b.drop i)))
 | 0, i, q + 1, s, hi, _ => by
  rw [Fb, Lo, if_neg (by rw [Ae, Ac]; simp; omega), show i = b.length by omega, List.drop_length]
  simp [Sk, Ab2, Ax2]
 | j + 1, i, q + 1, s, hi, hq => by
  have hlt : i < b.length := by omega
  have hc := b[i].toNat_lt
  rw [Fb, Lo, if_pos (by rw [Ae, Ac]; simp; omega), Cl hlt, Aa, Buf, Aa, Ah (by omega) (by omega)]
  have h := Ari b hb j (i + 1) q (UInt64.ofNat (Apw s.toNat b[i].toNat)) (by omega) (by omega)
  rw [show ((i : Int) + 1) = ((i + 1 : Nat) : Int) by omega, h, drop_cons hlt, Bam (Aum s.toNat_lt (by simpa using hc))]
  rfl
def Abw (b : List UInt8) : UInt64 := UInt64.ofNat (Ax2 0 b)
theorem Bgf (b : List UInt8) (hb : b.length ≤ 100000) : Qe 0 b = some (Abw b) :=
 Ari b (by omega) b.length 0 Ay 0 (by omega) (by have := Aq; omega)
theorem Biu (c : UInt64) : Aaa (Fu c (GI.toZ (1 : UInt64)).toNat) (Bp (4823603603198064275 : UInt64) (Cg c (GI.toZ (63 : UInt64)).toNat)) = UInt64.ofNat (Agp c.toNat) := by
 have hc := c.toNat_lt
 apply UInt64.toNat_inj.1
 have h1 : (Fu c (GI.toZ (1 : UInt64)).toNat).toNat = 2 * c.toNat % 18446744073709551616 := by
  rw [show (GI.toZ (1 : UInt64)).toNat = 1 from rfl, Alp, Nat.mul_comm]
 have h2 : (Bp (4823603603198064275 : UInt64) (Cg c (GI.toZ (63 : UInt64)).toNat)).toNat = c.toNat / 9223372036854775808 * P64 := by
  rw [show (GI.toZ (63 : UInt64)).toNat = 63 from rfl, Afr, UInt64.toNat_mul, Af2]
  show 4823603603198064275 * (c.toNat / 9223372036854775808) % 18446744073709551616 = _
  have h1 : c.toNat / 9223372036854775808 = 0 ∨ c.toNat / 9223372036854775808 = 1 := by omega
  rcases h1 with e | e <;> rw [e] <;> decide
 rw [Azt, UInt64.toNat_xor, h1, h2, Bam (Al3 hc)]; rfl
theorem Av5 (bk16 : Int → List UInt64 → Option (UInt64 × Int)) (s : UInt64) (b : List UInt8) (x : Int) (t : List UInt64) : ∀ (j i q : Nat) (c : UInt64), i + j = 8 → j < q →
  Rf bk16 s b x t q c (i : Int) = Ace bk16 s b x (UInt64.ofNat (Nv j c.toNat)) t
 | 0, i, q + 1, c, hi, _ => by
  obtain rfl : i = 8 := by omega
  rw [Rf, Ads, if_neg (by rw [Ae]; simp), Nv, UInt64.ofNat_toNat]
 | j + 1, i, q + 1, c, hi, hq => by
  rw [Rf, Ads, if_pos (by rw [Ae]; simp; omega), Biu, Ah (by omega) (by omega), show ((i : Int) + 1) = ((i + 1 : Nat) : Int) by omega, Av5 bk16 s b x t j (i + 1) q _ (by omega) (by omega), Bam (Al3 c.toNat_lt)]; rfl
def Akf (n : Nat) : List UInt64 := (List.range n).map fun i => UInt64.ofNat (Nv 8 (i * 72057594037927936))
theorem Axz (s : UInt64) (b : List UInt8) : ∀ (j i q : Nat), i + j = 256 → j < q → Mm s b q (i : Int) (Akf i ++ List.replicate j 0) = Abz s b (Akf 256)
 | 0, i, q + 1, hi, _ => by
  obtain rfl : i = 256 := by omega
  rw [Mm, Aco, if_neg (by rw [Ae]; simp)]; simp
 | j + 1, i, q + 1, hi, hq => by
  have hlen : (Akf i ++ List.replicate (j + 1) 0).length = i + (j + 1) := by simp [Akf]
  rw [Mm, Aco, if_pos (by rw [Ae]; simp; omega), Ajj]
  have h := Av5 (Mm s b q) s b (i : Int) (Akf i ++ List.replicate (j + 1) 0) 8 0 Ay (Fu (Ad (i : Int) : UInt64) (GI.toZ (56 : UInt64)).toNat) (by omega) (by have := Aq; omega)
  rw [show ((0 : Int)) = ((0 : Nat) : Int) from rfl, h, Ace, Ajc, Cl (by rw [hlen]; omega), Aa, Za _ (by rw [hlen]; omega), Aa, Ajq, Aqg, Ah (by omega) (by omega)]
  have e : (Fu (Ad (i : Int) : UInt64) (GI.toZ (56 : UInt64)).toNat).toNat = i * 72057594037927936 := by
   rw [Alp, Abb, Bam (by omega)]
   show i * 72057594037927936 % 18446744073709551616 = _
   omega
  rw [e, List.replicate_succ, Aqu (by simp [Akf])]
  have h2 := Axz s b j (i + 1) q (by omega) (by omega)
  have h3 : Akf (i + 1) = Akf i ++ [UInt64.ofNat (Nv 8 (i * 72057594037927936))] := by simp [Akf, List.range_succ]
  rw [h3] at h2
  rw [show ((i : Int) + 1) = ((i + 1 : Nat) : Int) by omega, ← h2]
  simp
theorem Blw {i : Nat} (h : i < 256) : Al (Akf 256) (i : Int) = some (UInt64.ofNat (Nv 8 (i * 72057594037927936))) := by
 rw [Cl (by simpa [Akf] using h)]; simp [Akf]
theorem Bej (s : UInt64) (c : UInt8) : Al (Akf 256) (GI.toZ (Aaa (Ad (Cg s (GI.toZ (56 : UInt64)).toNat) : UInt8) c)) = some (UInt64.ofNat (Nv 8 (((s.toNat / 72057594037927936) ^^^ c.toNat) * 72057594037927936))) := by
 have hs := s.toNat_lt
 have e : GI.toZ (Aaa (Ad (Cg s (GI.toZ (56 : UInt64)).toNat) : UInt8) c) = (((s.toNat / 72057594037927936) ^^^ c.toNat : Nat) : Int) := by
  have e2 : ((Ad (Cg s (GI.toZ (56 : UInt64)).toNat) : UInt8)).toNat = s.toNat / 72057594037927936 := by
   rw [Anz, UInt8.toNat_ofNat', Af2]
   show s.toNat / 72057594037927936 % 256 = _
   omega
  rw [Aa0, Bk9, UInt8.toNat_xor, e2]
 rw [e, Blw]
 exact Nat.xor_lt_two_pow (n := 8) (by show _ < 256; omega) (by simpa using c.toNat_lt)
theorem Bc0 (s : UInt64) (c : UInt8) : Aaa (Fu s (GI.toZ (8 : UInt64)).toNat) (UInt64.ofNat (Nv 8 (((s.toNat / 72057594037927936) ^^^ c.toNat) * 72057594037927936))) = UInt64.ofNat (Apw s.toNat c.toNat) := by
 have hs := s.toNat_lt
 have hc : c.toNat < 256 := by simpa using c.toNat_lt
 apply UInt64.toNat_inj.1
 have hlt : Nv 8 (((s.toNat / 72057594037927936) ^^^ c.toNat) * 72057594037927936) < 18446744073709551616 := Au4 8 (c56 (Nat.xor_lt_two_pow (n := 8) (by show _ < 256; omega) (by simpa using c.toNat_lt)))
 have e : (GI.toZ (8 : UInt64)).toNat = 8 := rfl
 rw [e, Azt, UInt64.toNat_xor, Alp, Bam hlt, Bam (Aum hs hc), Bcp hs hc, Nat.mul_comm s.toNat]
theorem Av3 (b : List UInt8) (s0 : UInt64) (hb : b.length < 4611686018427387904) : ∀ (j i q : Nat) (s : UInt64), i + j = b.length → j < q → Rl b s0 (Akf 256) q s (i : Int) = some (UInt64.ofNat (Ax2 s.toNat (b.drop i)), 0)
 | 0, i, q + 1, s, hi, _ => by
  rw [Rl, Acm, if_neg (by rw [Ae, Ac]; simp; omega), show i = b.length by omega, List.drop_length]
  simp [Aih, Ai7, Ajf, Ao1, Ax2]
 | j + 1, i, q + 1, s, hi, hq => by
  have hlt : i < b.length := by omega
  have hc := b[i].toNat_lt
  rw [Rl, Acm, if_pos (by rw [Ae, Ac]; simp; omega), Cl hlt, Aa, Bej, Aa, Aa, Bc0, Ah (by omega) (by omega)]
  have h := Av3 b s0 hb j (i + 1) q (UInt64.ofNat (Apw s.toNat b[i].toNat)) (by omega) (by omega)
  rw [show ((i : Int) + 1) = ((i + 1 : Nat) : Int) by omega, h, drop_cons hlt, Bam (Aum s.toNat_lt (by simpa using hc))]
  rfl
theorem Bgw (b : List UInt8) (hb : b.length ≤ 100000) : Aln b = some (Abw b, 0) := by
 have h := Axz 0 b 256 0 Ay (by omega) (by have := Aq; omega)
 have h2 := Av3 b 0 (by omega) b.length 0 Ay 0 (by omega) (by have := Aq; omega)
 have hn : Anx 0 b = some (Abw b, 0) := by
  rw [Anx, Aku, if_neg (by rw [As, Ac]; simp; omega), Aj0]
  refine Eq.trans h ?_
  rw [Abz, Aja, Aiq]
  exact h2
 rw [Aln, hn, Aa]
theorem Bmy (p : List UInt8) (hp : p.length ≤ 64) : Ah3 p = some (leB (Abw p).toNat 8, 0) := by
 rw [Ah3, Aui, if_neg (by rw [As, Ac]; simp; omega), Bgw p (by omega), Aa, Aa]
 simp only
 have h := Bev (Abw p) 8 (by omega) (by omega) (by simpa using (Abw p).toNat_lt)
 rw [if_neg (by rw [Aj]; simp)]
 exact congrArg (fun o => Option.bind o fun x : List UInt8 × Int => some (x.1, x.2)) h
theorem Bb6 (p : List UInt8) (hp : p.length ≤ 64) : Ou p = some (leB (Abw p).toNat 8) := by
 have h := Ayd (Abw p) 8 (by omega)
 rw [Ou, Adi, Bgf p (by omega), Aa, Aa]
 exact congrArg (fun o => Option.bind o fun l => some l) h
def s8 (n : Nat) : Int32 := Int32.ofInt (if n < 128 then (n : Int) else (n : Int) - 256)
def Akg (d : UInt64) (n : Nat) : List Int32 := (List.range n).map fun i => s8 (d.toNat / 256 ^ i % 256)
theorem Alx (d : UInt64) (n : Nat) : (Akg d n).length = n := by simp [Akg]
theorem Az8 (d : UInt64) (n : Nat) : Akg d (n + 1) = Akg d n ++ [s8 (d.toNat / 256 ^ n % 256)] := by simp [Akg, List.range_succ]
theorem bm8 (z : Nat) : (z : Int).bmod Int8.size = if z % 256 < 128 then ((z % 256 : Nat) : Int) else ((z % 256 : Nat) : Int) - 256 := by
 rw [show Int8.size = 256 from rfl, Int.bmod_def]
 split <;> split <;> omega
theorem Bk7 (d : UInt64) : ∀ (j i q : Nat), i + j = 8 → j < q → Aem d q (i : Int) (Akg d i ++ List.replicate (16 - i) 0) = some (Akg d 8 ++ List.replicate 8 0)
 | 0, i, q + 1, hi, _ => by
  obtain rfl : i = 8 := by omega
  rw [Aem, An0, if_neg (by rw [Ae]; simp)]; rfl
 | j + 1, i, q + 1, hi, hq => by
  have hlen : (Akg d i ++ List.replicate (16 - i) 0).length = 16 := by simp [Alx]; omega
  have ih := Bk7 d j (i + 1) q (by omega) (by omega)
  have e8 : Bp (8 : Int) (i : Int) = ((8 * i : Nat) : Int) := by rw [Ip (by omega) (by omega)]; omega
  have ev : (Ad (Ad (Cg d (GI.toZ (((8 * i : Nat) : Int))).toNat) : Int8) : Int32) = s8 (d.toNat / 256 ^ i % 256) := by
   have e1 : (Cg d (GI.toZ (((8 * i : Nat) : Int))).toNat).toNat = d.toNat / 256 ^ i := by
    rw [show (GI.toZ (((8 * i : Nat) : Int))).toNat = 8 * i from rfl, Af2, Nat.pow_mul]
   show Int32.ofInt (Int8.ofInt ((Cg d (GI.toZ (((8 * i : Nat) : Int))).toNat).toNat : Int)).toInt = _
   rw [e1, s8, Int8.toInt_ofInt, bm8]
  rw [Aem, An0, if_pos (by rw [Ae]; simp; omega), e8, Cm (by rw [Dq]; simp; omega), Aa, ev, Cl (by omega), Aa, Za _ (by omega), Aa, Ah (by omega) (by omega), show 16 - i = (15 - i) + 1 by omega, List.replicate_succ, Aqu (Alx d i)]
  rw [Az8, show 16 - (i + 1) = 15 - i by omega, List.append_assoc] at ih
  exact ih
theorem Bp9 (d : UInt64) : ∀ (j i q : Nat) (e : UInt64), i + j = 8 → j < q → e.toNat = d.toNat / 256 ^ i → Gt q e (i : Int) (Akg d i ++ List.replicate (16 - i) 0) = some (Akg d 8 ++ List.replicate 8 0)
 | 0, i, q + 1, e, hi, _, he => by
  obtain rfl : i = 8 := by omega
  rw [Gt, Sr, if_neg (by rw [Ae]; simp)]; rfl
 | j + 1, i, q + 1, e, hi, hq, he => by
  have hlen : (Akg d i ++ List.replicate (16 - i) 0).length = 16 := by simp [Alx]; omega
  have hq2 : (Cn e (256 : UInt64)).toNat = d.toNat / 256 ^ (i + 1) := by
   rw [Atq, UInt64.toNat_div, he, Nat.pow_succ, ← Nat.div_div_eq_div_mul]; rfl
  have ih := Bp9 d j (i + 1) q (Cn e (256 : UInt64)) (by omega) (by omega) hq2
  have ev : (Ad (Abu e (256 : UInt64)) : Int32) = Int32.ofInt ((d.toNat / 256 ^ i % 256 : Nat) : Int) := by
   show Int32.ofInt ((Abu e (256 : UInt64)).toNat : Int) = _
   rw [Bgu, UInt64.toNat_mod, he]; rfl
  have hz : d.toNat / 256 ^ i % 256 < 256 := Nat.mod_lt _ (by omega)
  have et : (Int32.ofInt ((d.toNat / 256 ^ i % 256 : Nat) : Int)).toInt = ((d.toNat / 256 ^ i % 256 : Nat) : Int) := by
   rw [Int32.toInt_ofInt, Int.bmod_eq_of_le (by show -(4294967296 / 2 : Int) ≤ _; omega) (by show _ < (4294967296 + 1) / 2; omega)]
  have hp8 : ∀ x : Int32, x = s8 (d.toNat / 256 ^ i % 256) → Sn (Gt q) e (i : Int) (Akg d i ++ List.replicate (16 - i) 0) x = some (Akg d 8 ++ List.replicate 8 0) := by
   intro x hx
   rw [Sn, Ai6, hx, Cl (by omega), Aa, Za _ (by omega), Aa, Ah (by omega) (by omega), show 16 - i = (15 - i) + 1 by omega, List.replicate_succ, Aqu (Alx d i)]
   rw [Az8, show 16 - (i + 1) = 15 - i by omega, List.append_assoc] at ih
   exact ih
  rw [Gt, Sr, if_pos (by rw [Ae]; simp; omega), ev, Bih, et, show (127 : Int32).toInt = 127 from rfl]
  by_cases h : d.toNat / 256 ^ i % 256 < 128
  ·rw [if_neg (by simp only [decide_eq_true_eq]; omega)]
   exact hp8 _ (by rw [s8, if_pos h])
  ·rw [if_pos (by simp only [decide_eq_true_eq]; omega)]
   refine hp8 _ ?_
   rw [s8, if_neg h, Ayb, Int32.ofInt_sub]; rfl
def Ap8 (p : List UInt8) : List Int32 := Akg (Abw p) 8 ++ List.replicate 8 0
theorem Amo (p : List UInt8) : (Ap8 p).length = 16 := by simp [Ap8, Alx]
theorem Bco (p : List UInt8) (hp : p.length ≤ 64) : Abe p = some (Ap8 p, 0) := by
 have h := Bk7 (Abw p) 8 0 Ay (by omega) (by have := Aq; omega)
 have h2 : Bdd (Abw p) = some (Ap8 p) := h
 rw [Abe, if_neg (by rw [As, Ac]; simp; omega), Bgw p (by omega), Aa]
 simp only
 rw [if_neg (by rw [Aj]; simp), h2, Aa]
theorem Be0 (p : List UInt8) (hp : p.length ≤ 64) : Wp p = some (Ap8 p, 0) := by
 have h := Bp9 (Abw p) 8 0 Ay (Abw p) (by omega) (by have := Aq; omega) (by simp)
 have h2 : Agz (Abw p) = some (Ap8 p) := h
 rw [Wp, if_neg (by rw [As, Ac]; simp; omega), Ae4, Acp, if_neg (by rw [As, Ac]; simp; omega), Bgf p (by omega), Aa, Aa, Aa]
 simp only
 rw [h2, Aa]
end Go.Pl
set_option linter.unusedVariables false
set_option linter.unusedSimpArgs false
namespace Go.Pl
open Go Go.Lv
def u8 (z : Int) : UInt8 := UInt8.ofNat (z % 256).toNat
theorem Bdy (z : Int) : u8 (z % 256) = u8 z := by rw [u8, u8]; congr 2; omega
def wB (bits : Int) : Nat := if bits = 8 then 1 else if bits = 16 then 2 else 3
theorem Bqm {bits : Int} (h : Dg bits) : Cn bits 8 = (wB bits : Int) := by obtain rfl | rfl | rfl := h <;> rfl
theorem Bkh (bits : Int) : 1 ≤ wB bits ∧ wB bits ≤ 3 := by
 unfold wB; split; · omega
 ·split <;> omega
def Ass (bits : Int) (x : Int) : List UInt8 := if bits = 8 then [u8 (x + 128)] else if bits = 16 then [u8 x, u8 (x / 256)] else [u8 x, u8 (x / 256), u8 (x / 65536)]
theorem Bf7 (bits x : Int) : (Ass bits x).length ≤ 3 := by
 unfold Ass; split; · simp
 ·split <;> simp
theorem Bnt (x : Int32) (k : Nat) (hk : k ≤ 32) : (Ad (Cg x k) : UInt8) = u8 (x.toInt.fdiv (2 ^ k)) := by
 have h := Aby x
 have e : Cg x k = Int32.ofInt (x.toInt.fdiv (2 ^ k)) := by
  show Int32.ofInt (x.toInt.fdiv (2 ^ min k 32)) = _
  rw [Nat.min_eq_left hk]
 have hb : -2147483648 ≤ x.toInt.fdiv (2 ^ k) ∧ x.toInt.fdiv (2 ^ k) < 2147483648 := by
  have hpos : (0 : Int) < 2 ^ k := Int.pow_pos (by omega)
  rw [Int.fdiv_eq_ediv_of_nonneg _ (by omega)]
  constructor
  ·refine (Int.le_ediv_iff_mul_le hpos).2 ?_
   have : (1 : Int) ≤ 2 ^ k := by omega
   have h2 : -2147483648 * (2 ^ k : Int) ≤ -2147483648 * 1 := Int.mul_le_mul_of_nonpos_left (by omega) this
   omega
  ·refine Int.ediv_lt_of_lt_mul hpos ?_
   have : (1 : Int) ≤ 2 ^ k := by omega
   have h2 : (2147483648 : Int) * 1 ≤ 2147483648 * 2 ^ k := Int.mul_le_mul_of_nonneg_left this (by omega)
   omega
 show UInt8.ofNat ((Cg x k).toInt % 256).toNat = _
 rw [e, Int32.toInt_ofInt, Int.bmod_eq_of_le (by show -(4294967296 / 2 : Int) ≤ _; omega) (by show _ < (4294967296 + 1) / 2; omega)]; rfl
section
variable (bk : Int → List UInt8 → Option (List UInt8 × Int)) (l : List Int32)
theorem Awp {bits : Int} (h : Dg bits) (c : Int32) (x : Int) (i q : Nat) (acc : List UInt8) (hi : i < wB bits) (ha : acc.length ≤ 100000) :
  Io bk bits l c x (q + 1) (i : Int) acc = Io bk bits l c x q ((i + 1 : Nat) : Int) (acc ++ [u8 (c.toInt.fdiv (2 ^ (8 * i)))]) := by
 have hw := Bkh bits
 have e8 : Bp (8 : Int) (i : Int) = ((8 * i : Nat) : Int) := by rw [Ip (by omega) (by omega)]; omega
 rw [Io, Aan, Bqm h, if_pos (by rw [Ae]; simp; omega), e8, Cm (by rw [Dq]; simp; omega), Aa, show (GI.toZ (((8 * i : Nat) : Int))).toNat = 8 * i from rfl, Bnt _ _ (by omega), Cc (by simp; omega), Aa, Ah (by omega) (by omega)]; rfl
theorem Bja {bits : Int} (h : Dg bits) (c : Int32) (x : Int) (q : Nat) (acc : List UInt8) : Io bk bits l c x (q + 1) ((wB bits : Nat) : Int) acc = bk (Af x 1) acc := by
 rw [Io, Aan, Bqm h, if_neg (by rw [Ae]; simp), Agv, Aom]
theorem Bu9 {bits : Int} (h : Dg bits) (c : Int32) (x : Int) (acc : List UInt8) (ha : acc.length ≤ 90000) (hr : -(hB bits) ≤ c.toInt ∧ c.toInt < hB bits) :
  Kq bk bits l x acc (if bits = 8 then Af c (128 : Int32) else c) = bk (Af x 1) (acc ++ Ass bits c.toInt) := by
 have e : Ay = (Ay - 4) + 1 + 1 + 1 + 1 := by have := Aq; omega
 have hc := Aby c
 rw [Kq, Ago, Ag1, e]
 have g0 := fun (c : Int32) q acc ha => Awp bk l h c x 0 q acc (by have := Bkh bits; omega) ha
 obtain rfl | rfl | rfl := h
 ·have hh : hB 8 = 128 := rfl
  rw [hh] at hr
  have e1 : (Af c (128 : Int32)).toInt = c.toInt + 128 := by
   show (Int32.ofInt (c.toInt + (128 : Int32).toInt)).toInt = _
   rw [show (128 : Int32).toInt = 128 from rfl, Int32.toInt_ofInt, Int.bmod_eq_of_le (by show -(4294967296 / 2 : Int) ≤ _; omega) (by show _ < (4294967296 + 1) / 2; omega)]
  have g1 := Bja bk l (bits := 8) (.inl rfl) (Af c (128 : Int32)) x (Ay - 4 + 1 + 1)
  rw [if_pos rfl, show (0 : Int) = ((0 : Nat) : Int) from rfl, g0 _ _ _ (by omega)]
  refine Eq.trans (g1 _) ?_
  rw [e1, Ass, if_pos rfl]
  show bk _ (acc ++ [u8 ((c.toInt + 128).fdiv 1)]) = _
  rw [Int.fdiv_one]
 ·have g1 := fun q acc ha => Awp bk l (bits := 16) (.inr (.inl rfl)) c x 1 q acc (by decide) ha
  have g2 := Bja bk l (bits := 16) (.inr (.inl rfl)) c x (Ay - 4 + 1)
  rw [if_neg (by decide), show (0 : Int) = ((0 : Nat) : Int) from rfl, g0 _ _ _ (by omega), g1 _ _ (by simp; omega)]
  refine Eq.trans (g2 _) ?_
  rw [Ass, if_neg (by decide), if_pos rfl, List.append_assoc]
  show bk _ (acc ++ [u8 (c.toInt.fdiv 1), u8 (c.toInt.fdiv 256)]) = _
  rw [Int.fdiv_one, Int.fdiv_eq_ediv_of_nonneg _ (by omega)]
 ·have g1 := fun q acc ha => Awp bk l (bits := 24) (.inr (.inr rfl)) c x 1 q acc (by decide) ha
  have g2 := fun q acc ha => Awp bk l (bits := 24) (.inr (.inr rfl)) c x 2 q acc (by decide) ha
  have g3 := Bja bk l (bits := 24) (.inr (.inr rfl)) c x (Ay - 4)
  rw [if_neg (by decide), show (0 : Int) = ((0 : Nat) : Int) from rfl, g0 _ _ _ (by omega), g1 _ _ (by simp; omega), g2 _ _ (by simp; omega)]
  refine Eq.trans (g3 _) ?_
  rw [Ass, if_neg (by decide), if_neg (by decide), List.append_assoc, List.append_assoc]
  show bk _ (acc ++ [u8 (c.toInt.fdiv 1), u8 (c.toInt.fdiv 256), u8 (c.toInt.fdiv 65536)]) = _
  rw [Int.fdiv_one, Int.fdiv_eq_ediv_of_nonneg _ (by omega), Int.fdiv_eq_ediv_of_nonneg _ (by omega)]
end
def Sg (bits : Int) (l : List Int32) : List UInt8 := l.flatMap fun x => Ass bits x.toInt
theorem Ajy (bits : Int) : ∀ l : List Int32, (Sg bits l).length ≤ 3 * l.length
 | [] => by simp [Sg]
 | x :: l => by
  have h1 := Ajy bits l
  have h2 := Bf7 bits x.toInt
  simp only [Sg, List.flatMap_cons, List.length_append, List.length_cons] at *
  omega
def inR (bits : Int) (l : List Int32) : Prop := ∀ x ∈ l, -(hB bits) ≤ x.toInt ∧ x.toInt < hB bits
theorem Bks {bits : Int} (h : Dg bits) (l : List Int32) (hl : l.length ≤ 4000) (hr : inR bits l) : ∀ (j i q : Nat), i + j = l.length → j < q → Ey bits l q (i : Int) (Sg bits (l.take i)) = some (Sg bits l, 0)
 | 0, i, q + 1, hi, _ => by
  rw [Ey, Aak, if_neg (by rw [Ae, Ac]; simp; omega), List.take_of_length_le (by omega)]; rfl
 | j + 1, i, q + 1, hi, hq => by
  have hlt : i < l.length := by omega
  have ih := Bks h l hl hr j (i + 1) q (by omega) (by omega)
  have hlen := Ajy bits (l.take i)
  have hx := hr l[i] (List.getElem_mem _)
  have h1 := Bu9 (Ey bits l q) l h l[i] (i : Int) (Sg bits (l.take i)) (by rw [List.length_take] at hlen; omega) hx
  rw [Ey, Aak, if_pos (by rw [Ae, Ac]; simp; omega), Cl hlt, Aa]
  have e : (if (geq bits (8 : Int)) = true then Kq (Ey bits l q) bits l (i : Int) (Sg bits (l.take i)) (Af l[i] (128 : Int32)) else Kq (Ey bits l q) bits l (i : Int) (Sg bits (l.take i)) l[i]) = Kq (Ey bits l q) bits l (i : Int) (Sg bits (l.take i)) (if bits = 8 then Af l[i] (128 : Int32) else l[i]) := by
   by_cases h8 : bits = 8
   ·rw [if_pos (by rw [Az]; simpa using h8), if_pos h8]
   ·rw [if_neg (by rw [Az]; simpa using h8), if_neg h8]
  rw [e, h1, Ah (by omega) (by omega)]
  rw [Al4 hlt] at ih
  have e2 : Sg bits (l.take i ++ [l[i]]) = Sg bits (l.take i) ++ Ass bits l[i].toInt := by unfold Sg; rw [List.flatMap_append, List.flatMap_singleton]
  rw [e2] at ih
  exact ih
theorem Ba1 {bits : Int} (h : Dg bits) {l : List Int32} (hl : l.length ≤ 4000) (hc : Bf bits l = some 0) : inR bits l := by
 have hh := Aur bits
 have key : ∀ (j i q : Nat), i + j = l.length → j < q → Bd l (hB bits) q (i : Int) = some 0 → ∀ k, i ≤ k → (hk : k < l.length) → -(hB bits) ≤ l[k].toInt ∧ l[k].toInt < hB bits := by
  intro j
  induction j with
  | zero => intro i q hi hq _ k h1 h2; omega
  | succ j ih =>
   intro i q hi hq hs k h1 h2
   obtain ⟨q, rfl⟩ : ∃ k, q = k + 1 := ⟨q - 1, by omega⟩
   rw [Bd, Cv, if_pos (by rw [Ae, Ac]; simp; omega), Cl (by omega), Aa, Aa, Ek, Bh0, Ca (by omega) (by omega), Ah (by omega) (by omega), Ae, Dq] at hs
   by_cases g1 : l[i].toInt < 0 - hB bits
   ·rw [if_pos (by simpa using g1)] at hs; simp at hs
   ·rw [if_neg (by simpa using g1)] at hs
    by_cases g2 : hB bits ≤ l[i].toInt
    ·rw [if_pos (by simpa using g2)] at hs; simp at hs
    ·rw [if_neg (by simpa using g2)] at hs
     by_cases hk : k = i
     ·subst hk; omega
     ·exact ih (i + 1) q (by omega) (by omega) hs k (by omega) h2
 rw [Bf, Gg, Ayz h, Aa, if_neg (by rw [Az]; simp; omega), if_neg (by rw [As, Ac]; simp; omega)] at hc
 have := key l.length 0 Ay (by omega) (by have := Aq; omega) hc
 intro x hx
 obtain ⟨k, hk, rfl⟩ := List.getElem_of_mem hx
 exact this k (by omega) hk
theorem Azm {bits : Int} (h : Dg bits) {l : List Int32} (hl : l.length ≤ 4000) (hc : Bf bits l = some 0) : Wx bits l = some (Sg bits l, 0) := by
 have h1 := Bks h l hl (Ba1 h hl hc) l.length 0 Ay (by omega) (by have := Aq; omega)
 rw [Wx, Aix, Ayg h l hl, hc, Aa, if_neg (by rw [Aj]; simp)]
 exact h1
theorem Bru {bits : Int} (h : Dg bits) (x : Int32) (hr : -(hB bits) ≤ x.toInt ∧ x.toInt < hB bits) : Yt bits x = some (Ass bits x.toInt) := by
 have hx := Aby x
 have gu : ∀ z : Int, (Ad z : UInt8) = u8 z := fun z => rfl
 have hq : ∀ n : Int, 0 ≤ n → n ≤ 20000000 → Cn n (256 : Int) = n / 256 ∧ Cn n (65536 : Int) = n / 65536 := by
  intro n h1 h2
  constructor <;> (rw [Ag3, Int.tdiv_eq_ediv_of_nonneg h1, Ca (by omega) (by omega)])
 have hm : ∀ n : Int, 0 ≤ n → Lk n (256 : Int) = n % 256 := fun n h1 => by rw [Lk, Int.tmod_eq_emod_of_nonneg h1]
 rw [Yt, Zh, Ek]
 obtain rfl | rfl | rfl := h
 ·rw [if_pos (by rw [Az]; rfl), Ah (by omega) (by omega), gu, Ass, if_pos rfl]
 ·have hh : hB 16 = 32768 := rfl
  rw [hh] at hr
  have hp : ∀ n : Int, 0 ≤ n → n ≤ 70000 → u8 n = u8 x.toInt → u8 (n / 256) = u8 (x.toInt / 256) → Ic 16 n = some (Ass 16 x.toInt) := by
   intro n h1 h2 h3 h4
   rw [Ic, Yz, if_neg (by rw [Az]; decide), hm n h1, (hq n h1 (by omega)).1, hm _ (by omega), gu, gu, Bdy, Bdy, h3, h4, Ass, if_neg (by decide), if_pos rfl]
  rw [if_neg (by rw [Az]; decide)]
  by_cases hn : x.toInt < 0
  ·rw [if_pos (by rw [Ae]; simpa using hn), Ayz (.inr (.inl rfl)), Aa, hh, Ip (by omega) (by omega), Ah (by omega) (by omega)]
   refine hp _ (by omega) (by omega) ?_ ?_
   ·rw [u8, u8]; congr 2; omega
   ·rw [u8, u8]; congr 2; omega
  ·rw [if_neg (by rw [Ae]; simpa using hn)]
   exact hp _ (by omega) (by omega) rfl rfl
 ·have hh : hB 24 = 8388608 := rfl
  rw [hh] at hr
  have hp : ∀ n : Int, 0 ≤ n → n ≤ 16777215 → u8 n = u8 x.toInt → u8 (n / 256) = u8 (x.toInt / 256) → u8 (n / 65536) = u8 (x.toInt / 65536) → Ic 24 n = some (Ass 24 x.toInt) := by
   intro n h1 h2 h3 h4 h5
   rw [Ic, Yz, if_pos (by rw [Az]; rfl), hm n h1, (hq n h1 (by omega)).1, (hq n h1 (by omega)).2, hm _ (by omega), gu, gu, gu, Bdy, Bdy, h3, h4, h5, Cc (by simp), Aa, Ass, if_neg (by decide), if_neg (by decide)]; rfl
  rw [if_neg (by rw [Az]; decide)]
  by_cases hn : x.toInt < 0
  ·rw [if_pos (by rw [Ae]; simpa using hn), Ayz (.inr (.inr rfl)), Aa, hh, Ip (by omega) (by omega), Ah (by omega) (by omega)]
   refine hp _ (by omega) (by omega) ?_ ?_ ?_
   ·rw [u8, u8]; congr 2; omega
   ·rw [u8, u8]; congr 2; omega
   ·rw [u8, u8]; congr 2; omega
  ·rw [if_neg (by rw [Ae]; simpa using hn)]
   exact hp _ (by omega) (by omega) rfl rfl rfl
theorem Bjy {bits : Int} (h : Dg bits) (l : List Int32) (hl : l.length ≤ 4000) (hr : inR bits l) : ∀ (j i q : Nat), i + j = l.length → j < q → Fz bits l q (i : Int) (Sg bits (l.take i)) = some (Sg bits l, 0)
 | 0, i, q + 1, hi, _ => by
  rw [Fz, Mz, if_neg (by rw [Ae, Ac]; simp; omega), List.take_of_length_le (by omega)]; rfl
 | j + 1, i, q + 1, hi, hq => by
  have hlt : i < l.length := by omega
  have ih := Bjy h l hl hr j (i + 1) q (by omega) (by omega)
  have hlen := Ajy bits (l.take i)
  have hol := Bf7 bits l[i].toInt
  rw [List.length_take] at hlen
  have e2 : Sg bits (l.take i ++ [l[i]]) = Sg bits (l.take i) ++ Ass bits l[i].toInt := by unfold Sg; rw [List.flatMap_append, List.flatMap_singleton]
  rw [Al4 hlt, e2] at ih
  rw [Fz, Mz, if_pos (by rw [Ae, Ac]; simp; omega), Cl hlt, Aa, Bru h _ (hr l[i] (List.getElem_mem _)), Aa, Cc (by omega), Aa, Ah (by omega) (by omega)]
  exact ih
theorem Bcg {bits : Int} (h : Dg bits) {l : List Int32} (hl : l.length ≤ 4000) (hc : Bf bits l = some 0) : Tf bits l = some (Sg bits l, 0) := by
 have h1 := Bjy h l hl (Ba1 h hl hc) l.length 0 Ay (by omega) (by have := Aq; omega)
 rw [Tf, Vd, hc, Aa, if_neg (by rw [Aj]; simp)]
 exact h1
end Go.Pl
set_option linter.unusedVariables false
set_option linter.unusedSimpArgs false
namespace Go.Pl
open Go Go.Lv
def Aml : List UInt8 → Nat → Int × Int
 | [], n => ((n : Int), 0)
 | c :: r, n => if 128 ≤ c.toNat then (0, 12) else Aml r (128 * n + c.toNat)
theorem Bkz : ∀ (l : List UInt8) (n k : Nat), n < 128 ^ k → 0 ≤ (Aml l n).1 ∧ (Aml l n).1 < ((128 ^ (k + l.length) : Nat) : Int)
 | [], n, k, h => by simp [Aml]; exact_mod_cast h
 | c :: r, n, k, h => by
  rw [Aml]
  split
  ·have : 0 < 128 ^ (k + (c :: r).length) := Nat.pow_pos (by omega)
   exact ⟨Int.le_refl _, by simp only; exact_mod_cast this⟩
  ·have := Bkz r (128 * n + c.toNat) (k + 1) (by rw [Nat.pow_succ]; omega)
   rw [List.length_cons, show k + (r.length + 1) = k + 1 + r.length by omega]
   exact this
theorem or7 (n c : Nat) (hn : n < 268435456) (hc : c < 128) : gor (Fu (n : Int) (GI.toZ (7 : UInt64)).toNat) (c : Int) = ((128 * n + c : Nat) : Int) := by
 have e : (GI.toZ (7 : UInt64)).toNat = 7 := rfl
 have h1 : Fu (n : Int) 7 = ((2 ^ 7 * n : Nat) : Int) := by
  have : Fu (n : Int) 7 = wrap64 ((n : Int) * 2 ^ 7) := rfl
  rw [this, Ca (by omega) (by omega)]; omega
 rw [e, h1]
 have h2 : gor ((2 ^ 7 * n : Nat) : Int) (c : Int) = wrap64 ((BitVec.ofInt 64 ((2 ^ 7 * n : Nat) : Int) ||| BitVec.ofInt 64 (c : Int)).toNat : Int) := rfl
 rw [h2, BitVec.toNat_or, BitVec.toNat_ofInt, BitVec.toNat_ofInt]
 have h3 : (((2 ^ 7 * n : Nat) : Int) % ((2 ^ 64 : Nat) : Int)).toNat = 2 ^ 7 * n := by omega
 have h4 : ((c : Int) % ((2 ^ 64 : Nat) : Int)).toNat = c := by omega
 rw [h3, h4, ← Nat.two_pow_add_eq_or_of_lt (by simpa using hc), Ca (by omega) (by omega)]
theorem Blc (b : List UInt8) (hb : b.length = 4) : ∀ (j i q n : Nat), i + j = 4 → j < q → n < 128 ^ i → Ly b q (n : Int) (i : Int) = some (Aml (b.drop i) n)
 | 0, i, q + 1, n, hi, _, _ => by
  rw [Ly, Yu, if_neg (by rw [Ae, Ac]; simp; omega), show b.drop i = [] by simp; omega]; rfl
 | j + 1, i, q + 1, n, hi, hq, hn => by
  have hlt : i < b.length := by omega
  have hn2 : n < 268435456 := Nat.lt_of_lt_of_le hn (show 128 ^ i ≤ 128 ^ 4 from Nat.pow_le_pow_right (by omega) (by omega))
  rw [Ly, Yu, if_pos (by rw [Ae, Ac]; simp; omega), Cl hlt, Aa, drop_cons hlt, Aml, Bpj]
  by_cases hc : 128 ≤ b[i].toNat
  ·rw [if_pos (by simp; omega), if_pos hc]
  ·rw [if_neg (by simp; omega), if_neg hc, Aic, or7 n _ hn2 (by omega), Ah (by omega) (by omega)]
   exact Blc b hb j (i + 1) q _ (by omega) (by omega) (by rw [Nat.pow_succ]; omega)
theorem Boy (b : List UInt8) (hb : b.length = 4) : ∀ (j i q n : Nat), i + j = 4 → j < q → n < 128 ^ i → Gd b q (n : Int) (i : Int) = some (Aml (b.drop i) n)
 | 0, i, q + 1, n, hi, _, _ => by
  rw [Gd, Mv, if_neg (by rw [Ae]; simp; omega), show b.drop i = [] by simp; omega]; rfl
 | j + 1, i, q + 1, n, hi, hq, hn => by
  have hlt : i < b.length := by omega
  have hn2 : n < 268435456 := Nat.lt_of_lt_of_le hn (show 128 ^ i ≤ 128 ^ 4 from Nat.pow_le_pow_right (by omega) (by omega))
  rw [Gd, Mv, if_pos (by rw [Ae]; simp; omega), Cl hlt, Aa, drop_cons hlt, Aml, Bpc]
  have h128 : (128 : UInt8).toNat = 128 := rfl
  by_cases hc : 128 ≤ b[i].toNat
  ·rw [if_pos (by simpa using hc), if_pos hc]
  ·have h3 := b[i].toNat_lt
   rw [if_neg (by simpa using hc), if_neg hc, Aa, Aic, Ip (by omega) (by omega), Ah (by omega) (by omega), Ah (by omega) (by omega)]
   have := Boy b hb j (i + 1) q (128 * n + b[i].toNat) (by omega) (by omega) (by rw [Nat.pow_succ]; omega)
   rw [← this]; rfl
theorem Bim (b : List UInt8) (hb : b.length = 4) : Afh b = some (Aml b 0) := by
 have h := Blc b hb 4 0 Ay 0 (by omega) (by have := Aq; omega) (by simp)
 rw [Afh, Aek, if_neg (by rw [Aj, Ac]; simp; omega), Aew]; exact h
theorem Bmq (b : List UInt8) (hb : b.length = 4) : Tt b = some (Aml b 0) := by
 have h := Boy b hb 4 0 Ay 0 (by omega) (by have := Aq; omega) (by simp)
 rw [Tt, Vq, if_neg (by rw [Aj, Ac]; simp; omega), Uq]; exact h
theorem Bjg {b : List UInt8} (hb : b.length = 4) : 0 ≤ (Aml b 0).1 ∧ (Aml b 0).1 < 268435456 := by
 have := Bkz b 0 0 (by simp)
 rw [hb] at this
 simpa using this
theorem An3 (s p : List UInt8) : Kr s p = some (decide (p.length ≤ s.length ∧ s.take p.length = p)) := by
 rw [Kr]
 by_cases h : p.length ≤ s.length
 ·rw [if_pos (by rw [Dq, Ac, Ac]; simp; omega), show Ac p = (p.length : Int) from rfl, Dc (by omega) (by omega), Aa, Il, Aa, Int.toNat_natCast]
  congr 1
  rw [Bool.eq_iff_iff]; simp [h]
 ·rw [if_neg (by rw [Dq, Ac, Ac]; simp; omega)]
  simp [h]
def Aog (b : List UInt8) (n : Int) : Int × Int :=
 if 4000 < n then (0, 4) else if (b.length : Int) < n then (0, 24) else
 if b.getD 5 0 = 16 ∧ (b.take n.toNat).drop (n - 10).toNat ≠ [51, 68, 73] ++ part b 3 7 then (0, 12) else (n, 0)
def Az6 (b : List UInt8) (r : Int) : Int × Int := Aog b (r + 10 + (if b.getD 5 0 = 16 then 10 else 0))
def Akm (b : List UInt8) : Int × Int :=
 if ¬ (3 ≤ b.length ∧ b.take 3 = [73, 68, 51]) then (0, 6) else if b.length < 10 then (0, 24) else
 if (Aml (part b 6 4) 0).2 ≠ 0 ∨ b.getD 4 0 ≠ 0 ∨ ¬ ((b.getD 5 0 = 0 ∧ 2 ≤ (b.getD 3 0).toNat ∧ (b.getD 3 0).toNat ≤ 4) ∨ (b.getD 5 0 = 16 ∧ b.getD 3 0 = 4)) then (0, 12) else
 Az6 b (Aml (part b 6 4) 0).1
theorem Asx {b : List UInt8} {i : Nat} (h : i < b.length) : Al b (i : Int) = some (b.getD i 0) := by
 rw [Cl h]; simp [List.getD_eq_getElem?_getD, h]
theorem Oq {b : List UInt8} (a w : Nat) (h : a + w ≤ b.length) : Bb b (a : Int) ((a + w : Nat) : Int) = some (part b a w) := by
 rw [Ag2 (by omega) (by omega) (by omega)]; rfl
theorem Brt (b : List UInt8) (r : Int) (h10 : 10 ≤ b.length) (h0 : 0 ≤ r) (h1 : r < 268435456) : Oc b r = some (Az6 b r) := by
 have g5 : Al b (5 : Int) = some (b.getD 5 0) := Asx (i := 5) (by omega)
 have key : ∀ n : Int, 10 ≤ n → n < 268435500 → Pa b n = some (Aog b n) := by
  intro n hn hn2
  rw [Pa, Af7, Aog]
  by_cases c1 : 4000 < n
  ·rw [if_pos (by rw [As]; simpa using c1), if_pos c1]
  ·rw [if_neg (by rw [As]; simpa using c1), if_neg c1]
   by_cases c2 : (b.length : Int) < n
   ·rw [if_pos (by rw [Ae, Ac]; simpa using c2), if_pos c2]
   ·have e3 : Bb b (3 : Int) (10 : Int) = some (part b 3 7) := Oq 3 7 (by omega)
    rw [if_neg (by rw [Ae, Ac]; simpa using c2), if_neg c2, g5, Aa]
    by_cases c3 : b.getD 5 0 = 16
    ·rw [if_pos (by rw [Am0]; simpa using c3), Bt (by omega) (by omega), Ag2 (by omega) (by omega) (by omega), Aa, e3, Aa, Cc (by rw [Cu (by omega)]; simp), Aa]
     by_cases c4 : (b.take n.toNat).drop (n - 10).toNat = [51, 68, 73] ++ part b 3 7
     ·rw [if_neg (by simpa using c4), if_neg (by intro h; exact h.2 c4)]
     ·rw [if_pos (by simpa using c4), if_pos ⟨c3, c4⟩]
    ·rw [if_neg (by rw [Am0]; simpa using c3), if_neg (fun h => c3 h.1)]
 rw [Oc, Ws, g5, Aa, Az6]
 by_cases c3 : b.getD 5 0 = 16
 ·rw [if_pos (by rw [Am0]; simpa using c3), Ah (by rw [Ah] <;> omega) (by rw [Ah] <;> omega), Ah (by omega) (by omega), key _ (by omega) (by omega), if_pos c3, show 10 + r + 10 = r + 10 + 10 by omega]
 ·rw [if_neg (by rw [Am0]; simpa using c3), Ah (by omega) (by omega), key _ (by omega) (by omega), if_neg c3, show 10 + r = r + 10 + 0 by omega]
theorem Bqs (b : List UInt8) (hb : b.length < 4611686018427387904) : Wl b = some (Akm b) := by
 rw [Wl, Yf, Akm]
 by_cases h3 : 3 ≤ b.length
 ·rw [if_neg (by rw [Ae, Ac]; simp; omega), Dc (by omega) (by omega), Aa]
  by_cases hp : b.take 3 = [73, 68, 51]
  ·rw [if_neg (by simpa using hp), if_neg (by simp [h3, hp]), Ye, Xm]
   by_cases h10 : b.length < 10
   ·rw [if_pos (by rw [Ae, Ac]; simp; omega), if_pos h10]
   ·have e6 : Bb b (6 : Int) (10 : Int) = some (part b 6 4) := Oq 6 4 (by omega)
    have g3 : Al b (3 : Int) = some (b.getD 3 0) := Asx (i := 3) (by omega)
    have g4 : Al b (4 : Int) = some (b.getD 4 0) := Asx (i := 4) (by omega)
    have g5 : Al b (5 : Int) = some (b.getD 5 0) := Asx (i := 5) (by omega)
    obtain ⟨v1, v2⟩ := Bjg (b := part b 6 4) (Cu (by omega))
    rw [if_neg (by rw [Ae, Ac]; simp; omega), if_neg h10, e6, Aa, Bmq _ (Cu (by omega)), Aa]
    have ht := Brt b (Aml (part b 6 4) 0).1 (by omega) v1 v2
    generalize Aml (part b 6 4) 0 = v at *
    obtain ⟨v, e⟩ := v
    simp only at ht v1 v2 ⊢
    simp only [Aa, g3, g4, g5, ht]
    generalize b.getD 3 0 = x at *
    generalize b.getD 4 0 = y at *
    generalize b.getD 5 0 = z at *
    simp only [Bh8, Bvc, Bpj, Aj]
    by_cases he : e = 0 <;> by_cases hy : y = 0 <;> by_cases hz : z = 0 <;> by_cases hz2 : z = 16 <;> by_cases hx : x = 4 <;> by_cases hx2 : x.toNat < 2 <;> by_cases hx4 : 4 < x.toNat <;> simp_all <;> (rw [if_neg (by omega), if_neg (by omega)])
  ·rw [if_pos (by simpa using hp), if_pos (by simp [hp])]
 ·rw [if_pos (by rw [Ae, Ac]; simp; omega), if_pos (by simp [h3])]
theorem Bbu (b : List UInt8) (n : Int) (h10 : 10 ≤ b.length) (hn : 10 ≤ n) (hn2 : n < 268435500) : Aaj b (b.getD 5 0) n = some (Aog b n) := by
 rw [Aaj, Aoi]
 by_cases c1 : 4000 < n
 ·rw [if_pos (by rw [As]; simpa using c1), Aog, if_pos c1]
 ·rw [if_neg (by rw [As]; simpa using c1)]
  by_cases c2 : (b.length : Int) < n
  ·rw [if_pos (by rw [Ae, Ac]; simpa using c2), Aog, if_neg c1, if_pos c2]
  ·have e3 : Bb b (3 : Int) (10 : Int) = some (part b 3 7) := Oq 3 7 (by omega)
   rw [if_neg (by rw [Ae, Ac]; simpa using c2)]
   by_cases c3 : b.getD 5 0 = 16
   ·have hl : ((b.take n.toNat).drop (n - 10).toNat).length = 10 := by simp; omega
    have ht : Aog b n = if (b.take n.toNat).drop (n - 10).toNat ≠ [51, 68, 73] ++ part b 3 7 then (0, 12) else (n, 0) := by rw [Aog, if_neg c1, if_neg c2]; simp only [c3, true_and]
    rw [if_pos (by rw [Am0]; simpa using c3), Bt (by omega) (by omega), Ag2 (by omega) (by omega) (by omega), Aa, ht]
    generalize (b.take n.toNat).drop (n - 10).toNat = f at *
    rw [Dc (by omega) (by omega), Aa, Cp (by omega) (by omega), Aa, e3, Aa, Il, Aa]
    have hf : f = f.take 3 ++ f.drop 3 := (List.take_append_drop 3 f).symm
    by_cases c4 : f = [51, 68, 73] ++ part b 3 7
    ·subst c4
     simp
    ·by_cases c5 : f.take 3 = [51, 68, 73]
     ·have : f.drop 3 ≠ part b 3 7 := fun h => c4 (by rw [hf, c5, h])
      simp only [List.cons_append, List.nil_append] at c4
      simp [c4, c5, this]
     ·simp only [List.cons_append, List.nil_append] at c4
      simp [c4, c5]
   ·rw [if_neg (by rw [Am0]; simpa using c3), Aog, if_neg c1, if_neg c2, if_neg (fun h => c3 h.1)]
theorem Bpn (b : List UInt8) (r : Int) (h10 : 10 ≤ b.length) (h0 : 0 ≤ r) (h1 : r < 268435456) : Aal b r (b.getD 5 0) = some (Az6 b r) := by
 rw [Aal, Agt, Az6]
 by_cases c3 : b.getD 5 0 = 16
 ·rw [if_pos (by rw [Am0]; simpa using c3), Ah (by rw [Ah] <;> omega) (by rw [Ah] <;> omega), Ah (by omega) (by omega), Bbu b _ h10 (by omega) (by omega), if_pos c3]
 ·rw [if_neg (by rw [Am0]; simpa using c3), Ah (by omega) (by omega), Bbu b _ h10 (by omega) (by omega), if_neg c3]; simp
theorem Bne (b : List UInt8) (hb : b.length < 4611686018427387904) : Ahy b = some (Akm b) := by
 rw [Ahy, Aai, An3, Aa]
 by_cases hp : 3 ≤ b.length ∧ b.take 3 = [73, 68, 51]
 ·rw [if_neg (by simpa using hp)]
  by_cases h10 : b.length < 10
  ·rw [if_pos (by rw [Ae, Ac]; simp; omega), Akm, if_neg (fun h => h hp), if_pos h10]
  ·have e6 : Bb b (6 : Int) (10 : Int) = some (part b 6 4) := Oq 6 4 (by omega)
   have g3 : Al b (3 : Int) = some (b.getD 3 0) := Asx (i := 3) (by omega)
   have g4 : Al b (4 : Int) = some (b.getD 4 0) := Asx (i := 4) (by omega)
   have g5 : Al b (5 : Int) = some (b.getD 5 0) := Asx (i := 5) (by omega)
   obtain ⟨v1, v2⟩ := Bjg (b := part b 6 4) (Cu (by omega))
   have ht := Bpn b (Aml (part b 6 4) 0).1 (by omega) v1 v2
   rw [if_neg (by rw [Ae, Ac]; simp; omega), g3, Aa, g5, Aa, Ags, Ag5, e6, Aa, Bim _ (Cu (by omega)), Aa, Akm, if_neg (fun h => h hp), if_neg h10]
   generalize Aml (part b 6 4) 0 = v at *
   obtain ⟨v, e⟩ := v
   simp only at ht v1 v2 ⊢
   simp only [Aa, g4, Agw, Ahb]
   generalize b.getD 3 0 = x at *
   generalize b.getD 4 0 = y at *
   generalize b.getD 5 0 = z at *
   simp only [Bh8, Bvn, Am0, Bpc, Aj]
   have e2 : (2 : UInt8).toNat = 2 := rfl
   have e4 : (4 : UInt8).toNat = 4 := rfl
   by_cases he : e = 0 <;> by_cases hy : y = 0 <;> by_cases hz : z = 0 <;> by_cases hz2 : z = 16 <;> by_cases hx : x = 4 <;> by_cases hx2 : 2 ≤ x.toNat <;> by_cases hx4 : x.toNat ≤ 4 <;> simp_all
 ·rw [if_pos (by rw [Bool.not_eq_true', decide_eq_false_iff_not]; exact hp), Akm, if_pos hp]
theorem Boj {b : List UInt8} {n : Int} (h : Akm b = (n, 0)) : 10 ≤ n ∧ n ≤ b.length ∧ n ≤ 4000 := by
 unfold Akm at h
 split at h; · simp at h
 split at h; · simp at h
 split at h; · simp at h
 rename_i h10 _
 obtain ⟨v1, v2⟩ := Bjg (b := part b 6 4) (Cu (by omega))
 unfold Az6 at h
 generalize hm : (Aml (part b 6 4) 0).1 + 10 + (if b.getD 5 0 = 16 then 10 else 0) = m at h
 unfold Aog at h
 split at h; · simp at h
 split at h; · simp at h
 split at h; · simp at h
 simp only [Prod.mk.injEq, and_true] at h
 subst h
 refine ⟨?_, by omega, by omega⟩
 rw [← hm]
 split <;> omega
end Go.Pl
set_option linter.unusedVariables false
set_option linter.unusedSimpArgs false
namespace Go.Pl
open Go Go.Lv
def APE : List UInt8 := [65, 80, 69, 84, 65, 71, 69, 88]
def Nr (n m fl : Nat) : List UInt8 := APE ++ leB 2000 4 ++ leB (n + 32) 4 ++ leB m 4 ++ leB fl 4 ++ List.replicate 8 0
theorem Aj8 {n : Nat} (h : n < 18446744073709551616) : (UInt64.ofNat n).toNat = n := by rw [UInt64.toNat_ofNat', Nat.mod_eq_of_lt h]
theorem Aqz (n m : Int) (fl : UInt64) (c : UInt64) (i q : Nat) (acc : List UInt8) (hi : i < 6) (hc : Al ([(2000 : UInt64), (Ad (Af n (32 : Int)) : UInt64), (Ad m : UInt64), fl, (0 : UInt64), (0 : UInt64)] : List UInt64) (i : Int) = some c) (h : c.toNat < 4294967296) (ha : acc.length ≤ 1000000) :
  Aay n m fl (q + 1) (i : Int) acc = Aay n m fl q ((i + 1 : Nat) : Int) (acc ++ leB c.toNat 4) := by
 have hb := Bev c 4 (by omega) (by omega) (by simpa using h)
 rw [Aay, An7, if_pos (by rw [Ae, Ac]; simp; omega), hc, Aa, Aa, show ((4 : Int)) = ((4 : Nat) : Int) from rfl, hb, Aa]
 simp only
 rw [Cc (by rw [Qm]; omega), Aa, Ah (by omega) (by omega)]; rfl
theorem Azx (n m : Nat) (fl : UInt64) (hn : n ≤ 3000) (hm : m ≤ 1000) (hf : fl.toNat < 4294967296) : Aqo (n : Int) (m : Int) fl = some (Nr n m fl.toNat) := by
 have e1 : (Ad (Af (n : Int) (32 : Int)) : UInt64).toNat = n + 32 := by rw [Ah (by omega) (by omega), show (n : Int) + 32 = ((n + 32 : Nat) : Int) by omega, Abb, Aj8 (by omega)]
 have e2 : (Ad (m : Int) : UInt64).toNat = m := by rw [Abb, Aj8 (by omega)]
 have hF : Ay = (Ay - 7) + 1 + 1 + 1 + 1 + 1 + 1 + 1 := by have := Aq; omega
 rw [Aqo, Ar1, Asp, hF]
 rw [show ((0 : Int)) = ((0 : Nat) : Int) from rfl, Aqz n m fl 2000 0 _ _ (by omega) rfl (by decide) (by simp), Aqz n m fl _ 1 _ _ (by omega) rfl (by rw [e1]; omega) (by simp [Qm]), Aqz n m fl _ 2 _ _ (by omega) rfl (by rw [e2]; omega) (by simp [Qm]),
  Aqz n m fl fl 3 _ _ (by omega) rfl hf (by simp [Qm]), Aqz n m fl 0 4 _ _ (by omega) rfl (by decide) (by simp [Qm]), Aqz n m fl 0 5 _ _ (by omega) rfl (by decide) (by simp [Qm]), e1, e2]
 rw [Aay, An7, if_neg (by rw [Ae, Ac]; simp), Ase, Az9, Nr]
 have z : leB (0 : UInt64).toNat 4 ++ leB (0 : UInt64).toNat 4 = List.replicate 8 0 := by decide
 have z2 : leB (2000 : UInt64).toNat 4 = leB 2000 4 := rfl
 rw [List.append_assoc _ (leB (0 : UInt64).toNat 4), z, z2]; rfl
theorem Atg (n m : Nat) (fl : UInt64) (hn : n ≤ 3000) (hm : m ≤ 1000) (hf : fl.toNat < 4294967296) : Lw (n : Int) (m : Int) fl = some (Nr n m fl.toNat) := by
 have e1 : (Ad (Af (n : Int) (32 : Int)) : UInt64).toNat = n + 32 := by rw [Ah (by omega) (by omega), show (n : Int) + 32 = ((n + 32 : Nat) : Int) by omega, Abb, Aj8 (by omega)]
 have e2 : (Ad (m : Int) : UInt64).toNat = m := by rw [Abb, Aj8 (by omega)]
 have w : ∀ c : UInt64, Cr c 4 = some (leB c.toNat 4) := fun c => Ayd c 4 (by omega)
 have z2 : leB (2000 : UInt64).toNat 4 = leB 2000 4 := rfl
 rw [Lw]
 simp only [w, e1, e2, Aa]
 rw [Cc (by simp [Qm]), Aa, Cc (by simp [Qm]), Aa, Cc (by simp [Qm]), Aa, Cc (by simp [Qm]), Aa, Ays (by omega) (by omega), Aa, Cc (by simp [Qm]), Aa, z2]; rfl
theorem Ah5 {b : List UInt8} {a w k : Nat} (h : a + w ≤ k) : part (b.take k) a w = part b a w := by rw [part, part, List.take_take, Nat.min_eq_left h]
def Aga (b : List UInt8) : Bool := decide (Du (part b 12 4) < 32 ∨ 3032 < Du (part b 12 4) ∨ 1000 < Du (part b 16 4))
theorem Bp3 (b : List UInt8) (h : 20 ≤ b.length) : (((Ci (leU (part b 12 4)) (32 : UInt64)) || (Gf (leU (part b 12 4)) (3032 : UInt64))) || (Gf (leU (part b 16 4)) (1000 : UInt64))) = Aga b := by
 rw [Awm, Akb, Akb, Aj4 (by rw [Cu (by omega)]; omega), Aj4 (by rw [Cu (by omega)]; omega), Aga]
 show ((decide (Du (part b 12 4) < 32) || decide (3032 < Du (part b 12 4))) || decide (1000 < Du (part b 16 4))) = _
 simp [Bool.or_assoc]
theorem Auh (b : List UInt8) (h : 20 ≤ b.length) (hb : Aga b = false) : Ao (Ad (leU (part b 12 4)) : Int) (32 : Int) = ((Du (part b 12 4) - 32 : Nat) : Int) ∧ (Ad (leU (part b 16 4)) : Int) = ((Du (part b 16 4) : Nat) : Int) ∧ Du (part b 12 4) - 32 ≤ 3000 ∧ Du (part b 16 4) ≤ 1000 := by
 simp only [Aga, decide_eq_false_iff_not] at hb
 refine ⟨?_, Afj (by rw [Cu (by omega)]; omega), by omega, by omega⟩
 rw [Afj (by rw [Cu (by omega)]; omega), Bt (by omega) (by omega)]; omega
theorem Anq (b : List UInt8) (fl : UInt64) (h : 20 ≤ b.length) (hl : b.length < 4611686018427387904) (hf : fl.toNat < 4294967296) :
  Ah8 b fl = some (if Aga b = true then (0, 0, false) else (((Du (part b 12 4) - 32 : Nat) : Int), ((Du (part b 16 4) : Nat) : Int), b == Nr (Du (part b 12 4) - 32) (Du (part b 16 4)) fl.toNat)) := by
 have a1 : Ami b 12 4 = some (leU (part b 12 4), 0) := Bbg b 12 4 (by omega) (by omega) (by omega) hl
 have a2 : Ami b 16 4 = some (leU (part b 16 4), 0) := Bbg b 16 4 (by omega) (by omega) (by omega) hl
 rw [Ah8, a1, Aa]
 simp only
 rw [a2, Aa]
 simp only
 rw [Bp3 b h]
 cases hb : Aga b with
 | true => rfl
 | false =>
  obtain ⟨i1, i2, i3, i4⟩ := Auh b h hb
  rw [i1, i2, Azx _ _ _ i3 i4 hf]
  rfl
theorem Bg1 (b : List UInt8) (h : 20 ≤ b.length) (hl : b.length < 4611686018427387904) :
  Kh b = some (if Aga b = true then (0, 0, false) else (((Du (part b 12 4) - 32 : Nat) : Int), ((Du (part b 16 4) : Nat) : Int), true)) := by
 have a1 : Bb b 12 16 = some (part b 12 4) := Oq 12 4 (by omega)
 have a2 : Bb b 16 20 = some (part b 16 4) := Oq 16 4 (by omega)
 rw [Kh, a1, Aa, Bg9 _ (by rw [Cu (by omega)]; omega), Aa, a2, Aa, Bg9 _ (by rw [Cu (by omega)]; omega), Aa, Bp3 b h]
 cases hb : Aga b with
 | true => rfl
 | false =>
  obtain ⟨i1, i2, i3, i4⟩ := Auh b h hb
  rw [i1, i2]; rfl
def Ps (b : List UInt8) : Int × Int :=
 if ¬ (8 ≤ b.length ∧ b.take 8 = APE) then (0, 6) else if b.length < 32 then (0, 24) else
 if Aga b = true ∨ b.take 32 ≠ Nr (Du (part b 12 4) - 32) (Du (part b 16 4)) 2684354560 then (0, 12) else
 if b.length < Du (part b 12 4) + 32 then (0, 24) else
 if (b.take (Du (part b 12 4) + 32)).drop (Du (part b 12 4)) ≠ Nr (Du (part b 12 4) - 32) (Du (part b 16 4)) 2147483648 then (0, 12) else (((Du (part b 12 4) + 32 : Nat) : Int), 0)
theorem Bfq (b : List UInt8) : Aga (b.take 32) = Aga b := by rw [Aga, Aga, Ah5 (by omega), Ah5 (by omega)]
section
variable {b : List UInt8}
theorem fa1 (h : ¬ (8 ≤ b.length ∧ b.take 8 = APE)) : Ps b = (0, 6) := by rw [Ps, if_pos h]
theorem fa2 (h : 8 ≤ b.length ∧ b.take 8 = APE) (h2 : b.length < 32) : Ps b = (0, 24) := by rw [Ps, if_neg (fun h' => h' h), if_pos h2]
variable (h : 8 ≤ b.length ∧ b.take 8 = APE) (h2 : ¬ b.length < 32)
include h h2
theorem fa3 (h3 : Aga b = true) : Ps b = (0, 12) := by rw [Ps, if_neg (fun h' => h' h), if_neg h2, if_pos (.inl h3)]
theorem fa4 (h4 : b.take 32 ≠ Nr (Du (part b 12 4) - 32) (Du (part b 16 4)) 2684354560) : Ps b = (0, 12) := by rw [Ps, if_neg (fun h' => h' h), if_neg h2, if_pos (.inr h4)]
variable (h3 : Aga b = false) (h4 : b.take 32 = Nr (Du (part b 12 4) - 32) (Du (part b 16 4)) 2684354560)
include h3 h4
theorem fa5 (h5 : b.length < Du (part b 12 4) + 32) : Ps b = (0, 24) := by
 rw [Ps, if_neg (fun h' => h' h), if_neg h2, if_neg (fun h' => h'.elim (fun e => by rw [h3] at e; cases e) fun e => e h4), if_pos h5]
theorem fa6 (h5 : ¬ b.length < Du (part b 12 4) + 32) (h6 : (b.take (Du (part b 12 4) + 32)).drop (Du (part b 12 4)) ≠ Nr (Du (part b 12 4) - 32) (Du (part b 16 4)) 2147483648) : Ps b = (0, 12) := by
 rw [Ps, if_neg (fun h' => h' h), if_neg h2, if_neg (fun h' => h'.elim (fun e => by rw [h3] at e; cases e) fun e => e h4), if_neg h5, if_pos h6]
theorem fa7 (h5 : ¬ b.length < Du (part b 12 4) + 32) (h6 : (b.take (Du (part b 12 4) + 32)).drop (Du (part b 12 4)) = Nr (Du (part b 12 4) - 32) (Du (part b 16 4)) 2147483648) : Ps b = (((Du (part b 12 4) + 32 : Nat) : Int), 0) := by
 rw [Ps, if_neg (fun h' => h' h), if_neg h2, if_neg (fun h' => h'.elim (fun e => by rw [h3] at e; cases e) fun e => e h4), if_neg h5, if_neg (fun h' => h' h6)]
end
theorem Bie (b : List UInt8) (hl : b.length < 4611686018427387904) : Aqw b = some (Ps b) := by
 rw [Aqw, An3, Aa]
 by_cases hp : 8 ≤ b.length ∧ b.take 8 = APE
 ·rw [if_neg (by simpa [APE] using hp)]
  by_cases h32 : b.length < 32
  ·rw [if_pos (by rw [Ae, Ac]; simp; omega), fa2 hp h32]
  ·have t := Anq (b.take 32) 2684354560 (by simp; omega) (by simp; omega) (by decide)
   rw [Bfq, Ah5 (by omega), Ah5 (by omega)] at t
   rw [if_neg (by rw [Ae, Ac]; simp; omega), Dc (by omega) (by omega), Aa, show (32 : Int).toNat = 32 from rfl, t, Aa]
   cases hb : Aga b with
   | true => rw [fa3 hp h32 hb]; simp
   | false =>
    obtain ⟨i1, i2, i3, i4⟩ := Auh b (by omega) hb
    have i5 : 32 ≤ Du (part b 12 4) := by simp only [Aga, decide_eq_false_iff_not] at hb; omega
    simp only [Bool.false_eq_true, if_false, false_or]
    by_cases c1 : b.take 32 = Nr (Du (part b 12 4) - 32) (Du (part b 16 4)) 2684354560
    ·have c1' : b.take 32 = Nr (Du (part b 12 4) - 32) (Du (part b 16 4)) (2684354560 : UInt64).toNat := c1
     rw [if_neg (by simpa using c1'), Ah (by omega) (by omega)]
     have e1 : ((Du (part b 12 4) - 32 : Nat) : Int) + 64 = ((Du (part b 12 4) + 32 : Nat) : Int) := by omega
     rw [e1]
     by_cases c2 : b.length < Du (part b 12 4) + 32
     ·rw [if_pos (by rw [Ae, Ac]; simp; omega), fa5 hp h32 hb c1 c2]
     ·rw [if_neg (by rw [Ae, Ac]; simp; omega), Bt (by omega) (by omega), Ag2 (by omega) (by omega) (by omega), Aa, Azx _ _ _ i3 i4 (by decide), Aa, Il, Aa]
      rw [show (((Du (part b 12 4) + 32 : Nat) : Int)).toNat = Du (part b 12 4) + 32 by omega, show (((Du (part b 12 4) + 32 : Nat) : Int) - 32).toNat = Du (part b 12 4) by omega]
      by_cases c3 : (b.take (Du (part b 12 4) + 32)).drop (Du (part b 12 4)) = Nr (Du (part b 12 4) - 32) (Du (part b 16 4)) 2147483648
      ·have c3' : (b.take (Du (part b 12 4) + 32)).drop (Du (part b 12 4)) = Nr (Du (part b 12 4) - 32) (Du (part b 16 4)) (2147483648 : UInt64).toNat := c3
       rw [if_neg (by simpa using c3'), fa7 hp h32 hb c1 c2 c3]
      ·have c3' : ¬ (b.take (Du (part b 12 4) + 32)).drop (Du (part b 12 4)) = Nr (Du (part b 12 4) - 32) (Du (part b 16 4)) (2147483648 : UInt64).toNat := c3
       rw [if_pos (by simpa using c3'), fa6 hp h32 hb c1 c2 c3]
    ·have c1' : ¬ b.take 32 = Nr (Du (part b 12 4) - 32) (Du (part b 16 4)) (2684354560 : UInt64).toNat := c1
     rw [if_pos (by simpa using c1'), fa4 hp h32 c1]
 ·rw [if_pos (by rw [Bool.not_eq_true', decide_eq_false_iff_not]; exact hp), fa1 hp]
theorem Bl0 (b : List UInt8) (hl : b.length < 4611686018427387904) : Tj b = some (Ps b) := by
 rw [Tj, Uy]
 by_cases h8 : 8 ≤ b.length
 ·rw [if_neg (by rw [Ae, Ac]; simp; omega), Dc (by omega) (by omega), Aa, show (8 : Int).toNat = 8 from rfl]
  by_cases ha : b.take 8 = APE
  ·have hp := And.intro h8 ha
   rw [if_neg (by simpa [APE] using ha), Vo, Vu]
   by_cases h32 : b.length < 32
   ·rw [if_pos (by rw [Ae, Ac]; simp; omega), fa2 hp h32]
   ·have t := Bg1 (b.take 32) (by simp; omega) (by simp; omega)
    rw [Bfq, Ah5 (by omega), Ah5 (by omega)] at t
    rw [if_neg (by rw [Ae, Ac]; simp; omega), Dc (by omega) (by omega), Aa, show (32 : Int).toNat = 32 from rfl, t, Aa]
    cases hb : Aga b with
    | true => rw [fa3 hp h32 hb]; simp
    | false =>
     obtain ⟨i1, i2, i3, i4⟩ := Auh b (by omega) hb
     have i5 : 32 ≤ Du (part b 12 4) := by simp only [Aga, decide_eq_false_iff_not] at hb; omega
     simp only [Bool.false_eq_true, if_false, false_or, Aa, Bool.not_true]
     rw [Pf, Atg _ _ _ i3 i4 (by decide), Aa, Aa]
     by_cases c1 : b.take 32 = Nr (Du (part b 12 4) - 32) (Du (part b 16 4)) 2684354560
     ·have c1' : b.take 32 = Nr (Du (part b 12 4) - 32) (Du (part b 16 4)) (2684354560 : UInt64).toNat := c1
      rw [if_neg (by simpa using c1'), Vm, Adw, Ah (by omega) (by omega)]
      have e1 : 64 + ((Du (part b 12 4) - 32 : Nat) : Int) = ((Du (part b 12 4) + 32 : Nat) : Int) := by omega
      rw [e1]
      by_cases c2 : b.length < Du (part b 12 4) + 32
      ·rw [if_pos (by rw [Ae, Ac]; simp; omega), fa5 hp h32 hb c1 c2]
      ·rw [if_neg (by rw [Ae, Ac]; simp; omega), Bt (by omega) (by omega), Ag2 (by omega) (by omega) (by omega), Aa, De, if_pos rfl, Atg _ _ _ i3 i4 (by decide), Aa, Aa]
       rw [show (((Du (part b 12 4) + 32 : Nat) : Int)).toNat = Du (part b 12 4) + 32 by omega, show (((Du (part b 12 4) + 32 : Nat) : Int) - 32).toNat = Du (part b 12 4) by omega]
       by_cases c3 : (b.take (Du (part b 12 4) + 32)).drop (Du (part b 12 4)) = Nr (Du (part b 12 4) - 32) (Du (part b 16 4)) 2147483648
       ·have c3' : (b.take (Du (part b 12 4) + 32)).drop (Du (part b 12 4)) = Nr (Du (part b 12 4) - 32) (Du (part b 16 4)) (2147483648 : UInt64).toNat := c3
        rw [if_neg (by simpa using c3'), fa7 hp h32 hb c1 c2 c3]
       ·have c3' : ¬ (b.take (Du (part b 12 4) + 32)).drop (Du (part b 12 4)) = Nr (Du (part b 12 4) - 32) (Du (part b 16 4)) (2147483648 : UInt64).toNat := c3
        rw [if_pos (by simpa using c3'), fa6 hp h32 hb c1 c2 c3]
     ·have c1' : ¬ b.take 32 = Nr (Du (part b 12 4) - 32) (Du (part b 16 4)) (2684354560 : UInt64).toNat := c1
      rw [if_pos (by simpa using c1'), fa4 hp h32 c1]
  ·rw [if_pos (by simpa [APE] using ha), fa1 (fun h => ha h.2)]
 ·rw [if_pos (by rw [Ae, Ac]; simp; omega), fa1 (fun h => h8 h.1)]
theorem Blo {b : List UInt8} {n : Int} (h : Ps b = (n, 0)) : 64 ≤ n ∧ n ≤ b.length := by
 unfold Ps at h
 split at h; · simp at h
 split at h; · simp at h
 split at h; · simp at h
 rename_i hb
 split at h; · simp at h
 split at h; · simp at h
 simp only [Prod.mk.injEq, and_true] at h
 have hb' : ¬ Aga b = true := fun e => hb (.inl e)
 simp only [Aga, decide_eq_true_eq] at hb'
 omega
end Go.Pl
set_option linter.unusedVariables false
set_option linter.unusedSimpArgs false
namespace Go.Pl
open Go Go.Lv
def Dv (b : List UInt8) : Int × Int := if (Akm b).2 ≠ 6 then Akm b else Ps b
theorem size_eq (b : List UInt8) (hl : b.length < 4611686018427387904) : Xa b = some (Dv b) := by
 rw [Xa, Bne b hl, Aa, Bie b hl]
 by_cases h : (Akm b).2 = 6
 ·simp [Dv, h, Aj]
 ·simp [Dv, h, Aj]
theorem Aw5 {b : List UInt8} {n : Int} (h : Dv b = (n, 0)) : 10 ≤ n ∧ n ≤ b.length := by
 unfold Dv at h
 split at h
 ·have := Boj h; omega
 ·have := Blo h; omega
def Ch (b : List UInt8) : Nat → Nat → List Int × Int
 | 0, _ => ([], 6)
 | j + 1, p => if (Dv (b.drop p)).2 = 6 then ([], 0) else if (Dv (b.drop p)).2 ≠ 0 then ([], (Dv (b.drop p)).2) else
  if 4000 < (p : Int) + (Dv (b.drop p)).1 then ([], 4) else
  if (Ch b j (p + (Dv (b.drop p)).1.toNat)).2 = 0 then ((Dv (b.drop p)).1 :: (Ch b j (p + (Dv (b.drop p)).1.toNat)).1, 0) else ([], (Ch b j (p + (Dv (b.drop p)).1.toNat)).2)
theorem Aug (b : List UInt8) : ∀ (j p : Nat), p ≤ b.length → p ≤ 4000 → (Ch b j p).2 = 0 → (∀ x ∈ (Ch b j p).1, 10 ≤ x) ∧ (p : Int) + (Ch b j p).1.sum ≤ b.length ∧ (p : Int) + (Ch b j p).1.sum ≤ 4000
 | 0, p, _, _, h => by simp [Ch] at h
 | j + 1, p, hp, hq, h => by
  rw [Ch] at h ⊢
  split at h
  ·rename_i h6; rw [if_pos h6]; simp; omega
  ·rename_i h6
   split at h
   ·rename_i h0; exact absurd h h0
   ·rename_i h0
    rw [if_neg h6, if_neg h0]
    have hz : Dv (b.drop p) = ((Dv (b.drop p)).1, 0) := by rw [Prod.ext_iff]; exact ⟨rfl, Classical.not_not.1 h0⟩
    have hs := Aw5 hz
    rw [List.length_drop] at hs
    split at h
    ·simp at h
    ·rename_i h4
     rw [if_neg h4]
     split at h
     ·rename_i h00
      rw [if_pos h00]
      obtain ⟨i1, i2, i3⟩ := Aug b j _ (by omega) (by omega) h00
      refine ⟨fun x hx => ?_, ?_, ?_⟩
      ·rcases List.mem_cons.1 hx with rfl | hx
       ·exact hs.1
       ·exact i1 x hx
      ·simp only [List.sum_cons]; omega
      ·simp only [List.sum_cons]; omega
     ·rename_i h00; exact absurd h h00
def Bi0 (b : List UInt8) (j p : Nat) : Int × Int := if (Ch b j p).2 = 0 then ((p : Int) + (Ch b j p).1.sum, 0) else (0, (Ch b j p).2)
theorem Baf (b : List UInt8) (hl : b.length < 4611686018427387904) : ∀ (j p q : Nat), p ≤ b.length → p ≤ 4000 → b.length - p < j → j ≤ q → Ui b q (p : Int) = some (Bi0 b j p)
 | 0, p, q, _, _, h, _ => by omega
 | j + 1, p, q, hp, hp4, hj, hq => by
  obtain ⟨q, rfl⟩ : ∃ k, q = k + 1 := ⟨q - 1, by omega⟩
  rw [Ui, Cp (by omega) (by omega), Aa, Int.toNat_natCast, size_eq _ (by simp; omega), Aa, Az, Az, Aj, Bi0]
  by_cases h6 : (Dv (b.drop p)).2 = 6
  ·rw [if_pos (by simpa using h6)]
   have : Ch b (j + 1) p = ([], 0) := by rw [Ch, if_pos h6]
   rw [this]; simp
  ·rw [if_neg (by simpa using h6)]
   by_cases h0 : (Dv (b.drop p)).2 = 0
   ·have hz : Dv (b.drop p) = ((Dv (b.drop p)).1, 0) := by rw [Prod.ext_iff]; exact ⟨rfl, h0⟩
    have hs := Aw5 hz
    rw [List.length_drop] at hs
    rw [Ah (by omega) (by omega), As]
    by_cases h4 : 4000 < (p : Int) + (Dv (b.drop p)).1
    ·rw [if_pos (by simp [h0]; omega)]
     have : Ch b (j + 1) p = ([], 4) := by rw [Ch, if_neg h6, if_neg (fun h => h h0), if_pos h4]
     rw [this]; simp
    ·rw [if_neg (by simp [h0]; omega), if_neg (by simpa using h0)]
     have ih := Baf b hl j (p + (Dv (b.drop p)).1.toNat) q (by omega) (by omega) (by omega) (by omega)
     rw [show (p : Int) + (Dv (b.drop p)).1 = ((p + (Dv (b.drop p)).1.toNat : Nat) : Int) by omega, ih, Bi0]
     have : Ch b (j + 1) p = if (Ch b j (p + (Dv (b.drop p)).1.toNat)).2 = 0 then ((Dv (b.drop p)).1 :: (Ch b j (p + (Dv (b.drop p)).1.toNat)).1, 0) else ([], (Ch b j (p + (Dv (b.drop p)).1.toNat)).2) := by
      rw [Ch, if_neg h6, if_neg (fun h => h h0), if_neg h4]
     rw [this]
     by_cases hr : (Ch b j (p + (Dv (b.drop p)).1.toNat)).2 = 0
     ·simp only [hr, if_true, List.sum_cons]; congr 2; omega
     ·simp only [hr, if_false]
   ·rw [if_neg (by simp [h0]), if_pos (by simpa using h0)]
    have : Ch b (j + 1) p = ([], (Dv (b.drop p)).2) := by rw [Ch, if_neg h6, if_pos h0]
    rw [this]; simp [h0]
def Bpq (b : List UInt8) (j p : Nat) (xs : List Int) : List Int × Int := if (Ch b j p).2 = 0 then (xs ++ (Ch b j p).1, 0) else ([], (Ch b j p).2)
theorem Bom (bk : Int → List Int → Option (List Int × Int)) (b : List UInt8) (p : Nat) (hp : p ≤ b.length) (xs : List Int) (hx : xs.length ≤ 4000) (hl : b.length < 4611686018427387904) : Ng (Iw bk b) b (p : Int) xs = Iw bk b (p : Int) xs (Dv (b.drop p)).1 (Dv (b.drop p)).2 := by
 have hf := Bl0 (b.drop p) (by simp; omega)
 rw [Ng, Cp (by omega) (by omega), Aa, Int.toNat_natCast, Bqs _ (by simp; omega), Aa]
 by_cases h : (Akm (b.drop p)).2 = 6
 ·simp [Dv, h, Az, hf]
 ·simp [Dv, h, Az]
theorem Bbx (b : List UInt8) (hl : b.length < 4611686018427387904) : ∀ (j p q : Nat) (xs : List Int), p ≤ b.length → p ≤ 4000 → b.length - p < j → j ≤ q → xs.length ≤ p → Iu b q (p : Int) xs = some (Bpq b j p xs)
 | 0, p, q, _, _, _, h, _, _ => by omega
 | j + 1, p, q, xs, hp, hp4, hj, hq, hx => by
  obtain ⟨q, rfl⟩ : ∃ k, q = k + 1 := ⟨q - 1, by omega⟩
  rw [Iu, Bom _ b p hp xs (by omega) hl, Iw, Adx, Az, Aj, Bpq]
  by_cases h6 : (Dv (b.drop p)).2 = 6
  ·rw [if_pos (by simpa using h6)]
   have : Ch b (j + 1) p = ([], 0) := by rw [Ch, if_pos h6]
   rw [this]; simp
  ·rw [if_neg (by simpa using h6)]
   by_cases h0 : (Dv (b.drop p)).2 = 0
   ·have hz : Dv (b.drop p) = ((Dv (b.drop p)).1, 0) := by rw [Prod.ext_iff]; exact ⟨rfl, h0⟩
    have hs := Aw5 hz
    rw [List.length_drop] at hs
    rw [if_neg (by simpa using h0), Ah (by omega) (by omega), As]
    by_cases h4 : 4000 < (p : Int) + (Dv (b.drop p)).1
    ·rw [if_pos (by simp; omega)]
     have : Ch b (j + 1) p = ([], 4) := by rw [Ch, if_neg h6, if_neg (fun h => h h0), if_pos h4]
     rw [this]; simp
    ·rw [if_neg (by simp; omega), Cc (by simp; omega), Aa]
     have ih := Bbx b hl j (p + (Dv (b.drop p)).1.toNat) q (xs ++ [(Dv (b.drop p)).1]) (by omega) (by omega) (by omega) (by omega) (by simp; omega)
     rw [show (p : Int) + (Dv (b.drop p)).1 = ((p + (Dv (b.drop p)).1.toNat : Nat) : Int) by omega, ih, Bpq]
     have : Ch b (j + 1) p = if (Ch b j (p + (Dv (b.drop p)).1.toNat)).2 = 0 then ((Dv (b.drop p)).1 :: (Ch b j (p + (Dv (b.drop p)).1.toNat)).1, 0) else ([], (Ch b j (p + (Dv (b.drop p)).1.toNat)).2) := by
      rw [Ch, if_neg h6, if_neg (fun h => h h0), if_neg h4]
     rw [this]
     by_cases hr : (Ch b j (p + (Dv (b.drop p)).1.toNat)).2 = 0
     ·simp only [hr, if_true]; simp
     ·simp only [hr, if_false]
   ·rw [if_pos (by simpa using h0)]
    have : Ch b (j + 1) p = ([], (Dv (b.drop p)).2) := by rw [Ch, if_neg h6, if_pos h0]
    rw [this]; simp [h0]
theorem Awl : ∀ {l : List Int}, (∀ x ∈ l, 10 ≤ x) → 0 ≤ l.sum ∧ (l.length : Int) ≤ l.sum
 | [], _ => by simp
 | x :: l, h => by
  have h1 := h x List.mem_cons_self
  have h2 := Awl (l := l) fun y hy => h y (List.mem_cons_of_mem _ hy)
  simp only [List.sum_cons, List.length_cons]; omega
theorem Azp (r : Int) (l : List Int) (hl : l.length ≤ 4000) (hx : ∀ x ∈ l, 10 ≤ x) : ∀ (j i q : Nat) (n : Int), i + j = l.length → j < q → 0 ≤ n → n + (l.drop i).sum ≤ 4000 → Ga r l q n (i : Int) = some (n + (l.drop i).sum, r)
 | 0, i, q + 1, n, hi, _, _, _ => by
  rw [Ga, Nd, if_neg (by rw [Ae, Ac]; simp; omega), show i = l.length by omega, List.drop_length]
  simp [Uw, Ad4]
 | j + 1, i, q + 1, n, hi, hq, hn, hs => by
  have hlt : i < l.length := by omega
  rw [drop_cons hlt, List.sum_cons] at hs ⊢
  have h1 := hx l[i] (List.getElem_mem hlt)
  have h2 := Awl (l := l.drop (i + 1)) fun y hy => hx y (List.mem_of_mem_drop hy)
  rw [Ga, Nd, if_pos (by rw [Ae, Ac]; simp; omega), Cl hlt, Aa, Aa, Ah (by omega) (by omega), Ah (by omega) (by omega)]
  have ih := Azp r l hl hx j (i + 1) q (n + l[i]) (by omega) (by omega) (by omega) (by omega)
  rw [show ((i : Int) + 1) = ((i + 1 : Nat) : Int) by omega, ih]
  congr 2; omega
def Gn (b : List UInt8) : Int × Int := Bi0 b (b.length + 1) 0
theorem Ajh (b : List UInt8) (hl : b.length < 4611686018427387904) : Jq b = some (Gn b) := by
 have := Baf b hl (b.length + 1) 0 Ay (by omega) (by omega) (by omega) (by have := Aq; omega)
 exact this
theorem Atr (b : List UInt8) (hl : b.length < 4611686018427387904) : Mn b = some (Gn b) := by
 have h := Bbx b hl (b.length + 1) 0 Ay [] (by omega) (by omega) (by omega) (by have := Aq; omega) (by simp)
 have h' : Aa2 b = some (Bpq b (b.length + 1) 0 []) := h
 rw [Mn, Uv, h', Aa, Gn, Bi0, Bpq]
 have ho := Aug b (b.length + 1) 0 (by omega) (by omega)
 by_cases h0 : (Ch b (b.length + 1) 0).2 = 0
 ·obtain ⟨i1, i2, i3⟩ := ho h0
  have hp := Awl i1
  simp only [h0, if_true, List.nil_append]
  have := Azp 0 (Ch b (b.length + 1) 0).1 (by omega) i1 (Ch b (b.length + 1) 0).1.length 0 Ay 0 (by omega) (by have := Aq; omega) (by omega) (by simpa using i3)
  simpa [Mq] using this
 ·simp only [h0, if_false]
  have := Azp (Ch b (b.length + 1) 0).2 [] (by simp) (by simp) 0 0 Ay 0 (by simp) (by have := Aq; omega) (by omega) (by simp)
  simpa [Mq] using this
theorem Aq1 {b : List UInt8} (h : (Gn b).2 = 0) : 0 ≤ (Gn b).1 ∧ (Gn b).1 ≤ b.length ∧ (Gn b).1 ≤ 4000 := by
 unfold Gn Bi0 at h ⊢
 split at h
 ·rename_i h0
  rw [if_pos h0]
  obtain ⟨i1, i2, i3⟩ := Aug b (b.length + 1) 0 (by omega) (by omega) h0
  have hp := Awl i1
  exact ⟨by simp; omega, i2, i3⟩
 ·rename_i h0; exact absurd h h0
end Go.Pl
set_option linter.unusedVariables false
set_option linter.unusedSimpArgs false
namespace Go.Pl
open Go Go.Lv
def longN (r : Nat) : Nat := max 1 (256 * r / 245)
theorem Aib (r : Nat) : 1 ≤ longN r := Nat.le_max_left _ _
theorem Ay4 {r : Nat} (h : r ≤ 1048576) : longN r ≤ 1100000 := by unfold longN; omega
theorem Bem {r : Nat} (h : r ≤ 1048576) : Arb (1 : Int) (Cn (Bp (256 : Int) (r : Int)) (245 : Int)) = (longN r : Int) := by
 rw [Ip (by omega) (by omega), Ag3, Int.tdiv_eq_ediv_of_nonneg (by omega), Ca (by omega) (by omega), Bh6, longN]; omega
def framesL (g n : Nat) : List Int := List.replicate ((n - 1) / g) (g : Int) ++ [((n - (n - 1) / g * g : Nat) : Int)]
theorem Avw (g n : Nat) : (framesL g n).length = (n - 1) / g + 1 := by simp [framesL]
theorem Bar {g n : Nat} (h : n ≤ g) (h1 : 1 ≤ n) : framesL g n = [(n : Int)] := by
 rw [framesL, Nat.div_eq_of_lt (by omega)]; simp
theorem Bef {g n : Nat} (hg : 1 ≤ g) (h : g < n) : framesL g n = (g : Int) :: framesL g (n - g) := by
 have e : (n - 1) / g = (n - g - 1) / g + 1 := by rw [← Nat.add_div_right _ (by omega)]; congr 1; omega
 rw [framesL, framesL, e, List.replicate_succ, List.cons_append]
 congr 4
 have := Nat.div_mul_le_self (n - g - 1) g
 rw [Nat.add_mul, Nat.one_mul]; omega
theorem At2 {g n : Nat} (hg : 1 ≤ g) (h1 : 1 ≤ n) : (n + g - 1) / g = (n - 1) / g + 1 := by
 rw [← Nat.add_div_right _ (by omega)]; congr 1; omega
theorem Bbq {r : Nat} (h1 : 1 ≤ r) (h : r ≤ 1048576) : Ada (r : Int) = some ((longN r : Int), 0) := by
 rw [Ada, if_neg (by simp [Ae, As]; omega), Bem h]
theorem Bqt {r : Nat} (h : r ≤ 1048576) : Pe (r : Int) = some (longN r : Int) := by rw [Pe, Bem h]
theorem Axe {r n : Nat} (h1 : 1 ≤ r) (h : r ≤ 1048576) (n1 : 1 ≤ n) (n2 : n ≤ 4000) : Zr (r : Int) (n : Int) = some (if 1000 < (n - 1) / longN r + 1 then (0, 4) else ((((n - 1) / longN r + 1 : Nat) : Int), 0)) := by
 have hp := Aib r
 have hl := Ay4 h
 have e : Cn (Ao (Af (n : Int) (longN r : Int)) (1 : Int)) (longN r : Int) = (((n - 1) / longN r + 1 : Nat) : Int) := by
  have : (n + longN r - 1) / longN r ≤ n + longN r - 1 := Nat.div_le_self _ _
  rw [Ah (by omega) (by omega), Bt (by omega) (by omega), Ag3, Int.tdiv_eq_ediv_of_nonneg (by omega), show (n : Int) + (longN r : Int) - 1 = ((n + longN r - 1 : Nat) : Int) by omega, ← Int.natCast_ediv, At2 hp n1]
  rw [At2 hp n1] at this
  generalize (n - 1) / longN r = k at *
  exact Ca (by omega) (by omega)
 rw [Zr, Bbq h1 h, Aa]
 simp only
 rw [if_neg (by rw [Aj]; simp), if_neg (by simp [Ae, As]; omega), Cm (by rw [Aj]; simp; omega), Aa, e]
 by_cases hk : 1000 < (n - 1) / longN r + 1
 ·rw [if_pos (by rw [As]; simp; omega), if_pos hk]
 ·rw [if_neg (by rw [As]; simp; omega), if_neg hk]
theorem Ayq {r : Nat} (h : r ≤ 1048576) : ∀ (j n q : Nat) (acc : List Int), n ≤ 4000 → n ≤ j → j < q → acc.length + n ≤ 10000 → Cw (r : Int) q (n : Int) acc = some (acc ++ (if n = 0 then [] else framesL (longN r) n))
 | 0, n, q + 1, acc, hn, hj, hq, ha => by
  obtain rfl : n = 0 := by omega
  rw [Cw, Ge, if_neg (by rw [As]; simp)]
  simp [Iv, Nc]
 | j + 1, n, q + 1, acc, hn, hj, hq, ha => by
  have hp := Aib r
  have hl := Ay4 h
  by_cases h0 : n = 0
  ·subst h0
   rw [Cw, Ge, if_neg (by rw [As]; simp)]
   simp [Iv, Nc]
  ·rw [Cw, Ge, if_pos (by rw [As]; simp; omega), Bqt h, Aa, Cc (by simp; omega), Aa, Aa, Bt (by omega) (by omega), Ajz]
   by_cases hs : n ≤ longN r
   ·rw [show min (n : Int) (longN r : Int) = (n : Int) by omega, if_neg h0, Bar hs (by omega)]
    have hz : ∃ k, q = k + 1 := ⟨q - 1, by omega⟩
    obtain ⟨q, rfl⟩ := hz
    rw [Cw, Ge, if_neg (by rw [As]; simp; omega)]
    simp [Iv, Nc]
   ·rw [show min (n : Int) (longN r : Int) = (longN r : Int) by omega, show (n : Int) - (longN r : Int) = ((n - longN r : Nat) : Int) by omega, Ayq h j (n - longN r) q _ (by omega) (by omega) (by omega) (by simp; omega), if_neg (by omega), if_neg h0, Bef hp (show longN r < n by omega)]
    simp
theorem Ay0 {r n : Nat} (h : r ≤ 1048576) (n1 : 1 ≤ n) (n2 : n ≤ 4000) : Jc (r : Int) (n : Int) = some (framesL (longN r) n) := by
 have := Ayq h n n Ay [] n2 (Nat.le_refl _) (by have := Aq; omega) (by simp; omega)
 rw [Jc, Vj, Vv, this, if_neg (by omega)]; rfl
theorem mul_one (m : Nat) (h : m ≤ 100000) : Afi (1 : UInt64) (UInt64.ofNat m) = some (0, UInt64.ofNat m) := by
 have y1 : (UInt64.ofNat m).toNat = m := Aj8 (by omega)
 have s1 : Cg (1 : UInt64) (GI.toZ (32 : UInt64)).toNat = 0 := by decide
 have s2 : Cg (UInt64.ofNat m) (GI.toZ (32 : UInt64)).toNat = 0 := by
  apply UInt64.toNat_inj.1
  rw [Af2, y1]
  exact Nat.div_eq_of_lt (Nat.lt_of_le_of_lt h (by decide))
 have s0 : Cg (0 : UInt64) (GI.toZ (32 : UInt64)).toNat = 0 := by decide
 have a1 : Jg (1 : UInt64) (4294967295 : UInt64) = 1 := by decide
 have a0 : Jg (0 : UInt64) (4294967295 : UInt64) = 0 := by decide
 have a2 : Jg (UInt64.ofNat m) (4294967295 : UInt64) = UInt64.ofNat m := by
  apply UInt64.toNat_inj.1
  rw [Azz, UInt64.toNat_and, y1]
  show m &&& (2 ^ 32 - 1) = m
  rw [Nat.and_two_pow_sub_one_eq_mod, Nat.mod_eq_of_lt (by omega)]
 have m1 : ∀ x : UInt64, Bp 1 x = x := fun x => by rw [Afr, UInt64.one_mul]
 have m0 : ∀ x : UInt64, Bp 0 x = 0 := fun x => by rw [Afr, UInt64.zero_mul]
 have p0 : ∀ x : UInt64, Af 0 x = x := fun x => by rw [Agd, UInt64.zero_add]
 have p1 : ∀ x : UInt64, Af x 0 = x := fun x => by rw [Agd, UInt64.add_zero]
 rw [Afi, Ag6]
 simp only [s1, s2, a1, a2, m1, m0, p0, p1, s0, a0, Aa]
theorem Av9 (v : Int) (m : Nat) (hm : m ≤ 100000) : ∀ (j n q : Nat), 1 ≤ n → n ≤ m → m - n ≤ j → j < q → Dt q (n : Int) (List.replicate n v ++ List.replicate (m - n) 0) = some (List.replicate m v)
 | j, n, q + 1, hn, hnm, hj, hq => by
  have hlen : Ac (List.replicate n v ++ List.replicate (m - n) 0) = (m : Int) := by simp [Ac]; omega
  rw [Dt, Gj, hlen]
  by_cases h : n < m
  ·obtain ⟨j, rfl⟩ : ∃ k, j = k + 1 := ⟨j - 1, by omega⟩
   rw [if_pos (by rw [Ae]; simp; omega)]
   have v1 : vwI (m : Int) (n : Int) (m : Int) = some () := by rw [vwI, Cm]; simp; omega
   have v2 : vwI (m : Int) (0 : Int) (n : Int) = some () := by rw [vwI, Cm]; simp; omega
   have e1 : Alq (List.replicate n v ++ List.replicate (m - n) 0) (0 : Int) ((n : Int) - 0) = List.replicate n v := by
    simp [Alq]
   rw [v1, Aa, v2, Aa, e1]
   have e2 : Ajw ((m : Int) - (n : Int)) (List.replicate n v).length = ((min n (m - n) : Nat) : Int) := by
    rw [Ajw, List.length_replicate]; split <;> omega
   have e3 : Vn (List.replicate n v ++ List.replicate (m - n) 0) (n : Int) ((m : Int) - (n : Int)) (List.replicate n v) = List.replicate (n + min n (m - n)) v ++ List.replicate (m - (n + min n (m - n))) 0 := by
    have t1 : ((m : Int) - (n : Int)).toNat = m - n := by omega
    have t2 : (List.replicate n v ++ List.replicate (m - n) (0 : Int)).take n = List.replicate n v := by simp
    rw [Vn, t1, Int.toNat_natCast, t2, List.take_replicate, List.length_replicate, ← List.append_assoc, List.replicate_append_replicate, List.drop_append, List.length_replicate, Nat.min_comm (m - n) n]
    simp only [List.drop_replicate]
    rw [show n - (n + min n (m - n)) = 0 by omega, List.replicate_zero, List.nil_append, show m - n - (n + min n (m - n) - n) = m - (n + min n (m - n)) by omega]
   rw [e2, e3, Ah (by omega) (by omega), show (n : Int) + ((min n (m - n) : Nat) : Int) = ((n + min n (m - n) : Nat) : Int) by omega]
   exact Av9 v m hm j (n + min n (m - n)) q (by omega) (by omega) (by omega) (by omega)
  ·rw [if_neg (by rw [Ae]; simp; omega)]
   obtain rfl : n = m := by omega
   simp [Ir, Ns]
theorem Blm (v : Int) (m : Nat) (hm : m ≤ 100000) : My [v] (m : Int) = some (List.replicate m v) := by
 have y1 : (UInt64.ofNat m).toNat = m := Aj8 (by omega)
 have c1 : (Ad (Ac [v]) : UInt64) = 1 := by rfl
 have c2 : (Ad (m : Int) : UInt64) = UInt64.ofNat m := Abb m
 have c3 : (Ad (UInt64.ofNat m) : Int) = (m : Int) := by rw [Ava (by omega), y1]
 rw [My, Qa, if_neg (by rw [Ae]; simp), Pv, Pn, c1, c2, mul_one m hm, Aa]
 simp only
 rw [if_neg (by rw [Akb, Akb, y1]; simp; show m ≤ 9223372036854775807; omega), Pr, Qc, c3, Ays (by omega) (by omega), Aa, Cm (by rw [Az]; simp), Aa, Pp, Int.toNat_natCast]
 by_cases h0 : m = 0
 ·subst h0
  have hF : Ay = (Ay - 1) + 1 := by have := Aq; omega
  rw [hF, Dt, Gj]
  simp [Ac, Axb, Ajw, Ae, Ir, Ns]
 ·have := Av9 v m hm m 1 Ay (by omega) (by omega) (by omega) (by have := Aq; omega)
  have e1 : Ajw (Ac (List.replicate m (0 : Int))) [v].length = ((1 : Nat) : Int) := by simp [Ajw, Ac]; omega
  have e2 : Axb (List.replicate m (0 : Int)) [v] = List.replicate 1 v ++ List.replicate (m - 1) 0 := by
   obtain ⟨k, rfl⟩ : ∃ k, m = k + 1 := ⟨m - 1, by omega⟩
   simp [Axb]
  rw [e1, e2, this]
theorem Bmm (l m : List Int) (h : l.length + m.length ≤ 1000000) : Mt [l, m] = some (l ++ m) := by
 have hF : Ay = (Ay - 3) + 1 + 1 + 1 := by have := Aq; omega
 rw [Mt, Po, Px]
 have g0 : Al [l, m] (0 : Int) = some l := rfl
 have g1 : Al [l, m] (1 : Int) = some m := rfl
 have l2 : Ac [l, m] = 2 := rfl
 have h3 : Iq [l, m] [] = some (l ++ m) := by
  rw [Iq, Np, Nq, hF, Dj, Fj, l2, if_pos (by decide), g0, Aa, Cc (by simp; omega), Aa, List.nil_append, show Af (0 : Int) 1 = 1 by decide,
   Dj, Fj, l2, if_pos (by decide), g1, Aa, Cc (by omega), Aa, show Af (1 : Int) 1 = 2 by decide, Dj, Fj, l2, if_neg (by decide)]
  rfl
 rw [hF, Dr, Gm, l2, if_pos (by decide), g0, Aa, Ah (by unfold Ac; omega) (by unfold Ac; omega), if_neg (by rw [Ae, Ac]; simp), show Af (0 : Int) 1 = 1 by decide,
  Dr, Gm, l2, if_pos (by decide), g1, Aa, Ah (by unfold Ac; omega) (by unfold Ac; omega), if_neg (by rw [Ae, Ac, Ac]; simp; omega), show Af (1 : Int) 1 = 2 by decide,
  Dr, Gm, l2, if_neg (by decide), Nt, Nl, if_neg (by rw [Ae, Ac, Ac]; simp; omega), Nn, Nu]
 have z : Ao (0 : Int) 0 = 0 := by decide
 have n0 : (0 : Int) + Ac l + Ac m = ((l.length + m.length : Nat) : Int) := by simp [Ac]
 rw [z, n0, Bt (by omega) (by omega), Int.sub_zero]
 by_cases hp : 0 < l.length + m.length
 ·rw [if_pos (by rw [As]; simp; omega), show vwI (0 : Int) 0 0 = some () from rfl, Aa, Ays (by omega) (by omega), Aa, Cc (by simp; omega), Aa]
  rw [show vwI (Ac ([] ++ List.replicate ((l.length + m.length : Nat) : Int).toNat (0 : Int))) 0 0 = some () by rw [vwI, Cm]; simp [Ac]; omega, Aa]
  simp only [Alq, Int.sub_self, Int.toNat_zero, List.take_zero]
  exact h3
 ·rw [if_neg (by rw [As]; simp; omega)]; exact h3
theorem Bpb {r n : Nat} (h1 : 1 ≤ r) (h : r ≤ 1048576) (n1 : 1 ≤ n) (n2 : n ≤ 4000) (hk : (n - 1) / longN r + 1 ≤ 1000) : Akk (r : Int) (n : Int) = some (framesL (longN r) n, 0) := by
 have hp := Aib r
 have hl := Ay4 h
 have hd := Nat.div_mul_le_self (n - 1) (longN r)
 rw [Akk, Axe h1 h n1 n2, if_neg (by omega), Aa]
 simp only
 rw [if_neg (by rw [Aj]; simp), Bbq h1 h, Aa]
 simp only
 rw [framesL]
 generalize (n - 1) / longN r = k at *
 have e1 : Ao ((k + 1 : Nat) : Int) 1 = (k : Int) := by rw [Bt (by omega) (by omega)]; omega
 have e2 : (k : Int) * (longN r : Int) = ((k * longN r : Nat) : Int) := by simp
 rw [e1, Blm _ _ (by omega), Aa, Ip (by rw [e2]; omega) (by rw [e2]; omega), e2, Bt (by omega) (by omega), Ajs, Bmm _ _ (by simp; omega), Aa, Aa, show (n : Int) - ((k * longN r : Nat) : Int) = ((n - k * longN r : Nat) : Int) by omega]
end Go.Pl
set_option linter.unusedVariables false
set_option linter.unusedSimpArgs false
namespace Go.Pl
open Go Go.Lv
def shapeB (f c w r n : Nat) : Bool := decide ((f = 1 ∨ f = 2) ∧ (1 ≤ c ∧ c ≤ 6) ∧ (w = 8 ∨ w = 16 ∨ w = 24) ∧ (1 ≤ r ∧ r ≤ 1048576) ∧ 1 ≤ n)
def fitB (c r n : Nat) : Bool := decide (n ≤ 4000 / c ∧ (n - 1) / longN r + 1 ≤ 1000)
theorem Aqc (f c w r n : Nat) : Qb (f : Int) (c : Int) (w : Int) (r : Int) (n : Int) = some (shapeB f c w r n) := by
 have e2 : Mc (f : Int) (c : Int) (w : Int) (r : Int) (n : Int) = some (decide ((f = 1 ∨ f = 2) ∧ (1 ≤ c ∧ c ≤ 6) ∧ (1 ≤ r ∧ r ≤ 1048576) ∧ 1 ≤ n)) := by
  rw [Mc, Aey]
  congr 1
  rw [Bool.eq_iff_iff]
  simp only [Az, As, Aoh, Bool.and_eq_true, Bool.or_eq_true, beq_iff_eq, decide_eq_true_eq]
  omega
 have g : ∀ k : Nat, geq (w : Int) (k : Int) = decide (w = k) := fun k => by rw [Az, Bool.eq_iff_iff]; simp; omega
 have g8 : geq (w : Int) (8 : Int) = decide (w = 8) := g 8
 have g16 : geq (w : Int) (16 : Int) = decide (w = 16) := g 16
 have g24 : geq (w : Int) (24 : Int) = decide (w = 24) := g 24
 rw [Qb, Yk, e2, g8, g16, g24, shapeB]
 by_cases h8 : w = 8
 ·subst h8; simp
 ·by_cases h16 : w = 16
  ·subst h16; simp
  ·by_cases h24 : w = 24
   ·subst h24; simp
   ·simp [h8, h16, h24]
theorem Asm (f c w r n : Nat) : Fq (f : Int) (c : Int) (w : Int) (r : Int) (n : Int) = some (shapeB f c w r n) := by
 rw [Fq, shapeB]
 simp only [Az, Dq, Aoh, Bool.and_eq_true, Bool.or_eq_true, beq_iff_eq, decide_eq_true_eq, Bool.false_and]
 split
 ·rename_i h
  congr 1
  rw [Bool.eq_iff_iff]
  simp only [Bool.and_eq_true, Bool.or_eq_true, beq_iff_eq, decide_eq_true_eq]
  omega
 ·rename_i h
  congr 1
  symm
  rw [decide_eq_false_iff_not]
  omega
theorem Btz {c : Nat} (h : 1 ≤ c) : Cn (4000 : Int) (c : Int) = ((4000 / c : Nat) : Int) := by
 have : 4000 / c ≤ 4000 := Nat.div_le_self _ _
 rw [Ag3, Int.tdiv_eq_ediv_of_nonneg (by omega), show (4000 : Int) = ((4000 : Nat) : Int) from rfl, ← Int.natCast_ediv]
 generalize 4000 / c = k at *
 exact Ca (by omega) (by omega)
theorem Aue {f c w r n : Nat} (h : shapeB f c w r n = true) : Agk (f : Int) (c : Int) (w : Int) (r : Int) (n : Int) = some (fitB c r n) := by
 simp only [shapeB, decide_eq_true_eq] at h
 have hd : 4000 / c ≤ 4000 := Nat.div_le_self _ _
 rw [Agk, Cm (by rw [Aj]; simp; omega), Aa, Btz (by omega), fitB]
 generalize 4000 / c = m at *
 by_cases h1 : n ≤ m
 ·rw [if_neg (by rw [As]; simp; omega), Axe (by omega) (by omega) (by omega) (by omega), Aa]
  generalize (n - 1) / longN r + 1 = k
  by_cases h2 : 1000 < k
  ·rw [if_pos h2]
   simp [Az, Aoh]
   omega
  ·rw [if_neg h2]
   simp [Az, Aoh, h1]
   omega
 ·rw [if_pos (by rw [As]; simp; omega)]
  simp [h1]
theorem Aya {f c w r n : Nat} (h : shapeB f c w r n = true) : Ht (f : Int) (c : Int) (w : Int) (r : Int) (n : Int) = some (!fitB c r n) := by
 simp only [shapeB, decide_eq_true_eq] at h
 have hd : 4000 / c ≤ 4000 := Nat.div_le_self _ _
 rw [Ht, Cm (by rw [Aj]; simp; omega), Aa, Btz (by omega), fitB]
 generalize 4000 / c = m at *
 by_cases h1 : n ≤ m
 ·rw [if_neg (by rw [As]; simp; omega), Ay0 (by omega) (by omega) (by omega), Aa, Ac, Avw]
  generalize (n - 1) / longN r + 1 = k
  congr 1
  rw [As, Bool.eq_iff_iff]
  simp only [decide_eq_true_eq, Bool.not_eq_true', decide_eq_false_iff_not]
  omega
 ·rw [if_pos (by rw [As]; simp; omega)]
  simp [h1]
def Avy : List UInt8 := [84, 84, 65, 49]
def f0 (b : List UInt8) : Nat := Du (part b 4 2)
def f1 (b : List UInt8) : Nat := Du (part b 6 2)
def f2 (b : List UInt8) : Nat := Du (part b 8 2)
def f3 (b : List UInt8) : Nat := Du (part b 10 4)
def f4 (b : List UInt8) : Nat := Du (part b 14 4)
abbrev H6 := Int × Int × Int × Int × Int × Int
def Gs (b : List UInt8) : H6 :=
 if b.take (min 4 b.length) ≠ Avy.take (min 4 b.length) then (0, 0, 0, 0, 0, 12) else if b.length < 22 then (0, 0, 0, 0, 0, 24) else
 if (Hq (b.take 18)).toNat ≠ Du (part b 18 4) then (0, 0, 0, 0, 0, 22) else
 if shapeB (f0 b) (f1 b) (f2 b) (f3 b) (f4 b) = false then (0, 0, 0, 0, 0, 12) else
 if fitB (f1 b) (f3 b) (f4 b) = false then (0, 0, 0, 0, 0, 4) else ((f0 b : Int), (f1 b : Int), (f2 b : Int), (f3 b : Int), (f4 b : Int), 0)
section
variable {b : List UInt8}
theorem rs1 (h : b.take (min 4 b.length) ≠ Avy.take (min 4 b.length)) : Gs b = (0, 0, 0, 0, 0, 12) := by rw [Gs, if_pos h]
variable (h : b.take (min 4 b.length) = Avy.take (min 4 b.length))
include h
theorem rs2 (h2 : b.length < 22) : Gs b = (0, 0, 0, 0, 0, 24) := by rw [Gs, if_neg (fun e => e h), if_pos h2]
variable (h2 : ¬ b.length < 22)
include h2
theorem rs3 (h3 : (Hq (b.take 18)).toNat ≠ Du (part b 18 4)) : Gs b = (0, 0, 0, 0, 0, 22) := by rw [Gs, if_neg (fun e => e h), if_neg h2, if_pos h3]
variable (h3 : (Hq (b.take 18)).toNat = Du (part b 18 4))
include h3
theorem rs4 (h4 : shapeB (f0 b) (f1 b) (f2 b) (f3 b) (f4 b) = false) : Gs b = (0, 0, 0, 0, 0, 12) := by rw [Gs, if_neg (fun e => e h), if_neg h2, if_neg (fun e => e h3), if_pos h4]
variable (h4 : shapeB (f0 b) (f1 b) (f2 b) (f3 b) (f4 b) = true)
include h4
theorem rs5 (h5 : fitB (f1 b) (f3 b) (f4 b) = false) : Gs b = (0, 0, 0, 0, 0, 4) := by rw [Gs, if_neg (fun e => e h), if_neg h2, if_neg (fun e => e h3), if_neg (by rw [h4]; simp), if_pos h5]
theorem rs6 (h5 : fitB (f1 b) (f3 b) (f4 b) = true) : Gs b = ((f0 b : Int), (f1 b : Int), (f2 b : Int), (f3 b : Int), (f4 b : Int), 0) := by rw [Gs, if_neg (fun e => e h), if_neg h2, if_neg (fun e => e h3), if_neg (by rw [h4]; simp), if_neg (by rw [h5]; simp)]
end
theorem Bq3 (b : List UInt8) (h2 : ¬ b.length < 22) : Bn (Ad (Hq (b.take 18)) : UInt64) (leU (part b 18 4)) = decide ((Hq (b.take 18)).toNat ≠ Du (part b 18 4)) := by
 rw [Ahz, Ik, Bool.eq_iff_iff]
 simp only [bne_iff_ne, ne_eq, decide_eq_true_eq]
 rw [← UInt64.toNat_inj, Aj8 (by have := (Hq (b.take 18)).toNat_lt; omega), Aj4 (by rw [Cu (by omega)]; omega)]
theorem Ap5 (b : List UInt8) (a w : Nat) (i q : Nat) (l : List Int) (hi : i < 5) (hl : l.length = 5) (hw : Al ([2, 2, 2, 4, 4] : List Int) (i : Int) = some (w : Int)) (h1 : 1 ≤ w) (h4 : w ≤ 4) (ha : a + w ≤ b.length) (hb : b.length < 4611686018427387904) :
  Md b (q + 1) (a : Int) (i : Int) l = Md b q ((a + w : Nat) : Int) ((i + 1 : Nat) : Int) (l.set i (Du (part b a w) : Int)) := by
 rw [Md, Acs, if_pos (by rw [Ae]; simp; omega), hw, Aa, Bbg b a w h1 (by omega) ha hb, Aa]
 simp only
 rw [Cl (by omega), Aa, Za _ (by omega), Aa, Afj (by rw [Cu ha]; omega), Ah (by omega) (by omega), Ah (by omega) (by omega)]
 rfl
theorem Bph (b : List UInt8) (h22 : ¬ b.length < 22) (hb : b.length < 4611686018427387904) : Ac0 b 4 0 (List.replicate 5 0) = Ab3 [(f0 b : Int), (f1 b : Int), (f2 b : Int), (f3 b : Int), (f4 b : Int)] := by
 have hF : Ay = (Ay - 6) + 1 + 1 + 1 + 1 + 1 + 1 := by have := Aq; omega
 rw [Ac0, hF, show (4 : Int) = ((4 : Nat) : Int) from rfl, show (0 : Int) = ((0 : Nat) : Int) from rfl]
 rw [Ap5 b 4 2 0 _ _ (by omega) (by simp) rfl (by omega) (by omega) (by omega) hb, Ap5 b 6 2 1 _ _ (by omega) (by simp) rfl (by omega) (by omega) (by omega) hb, Ap5 b 8 2 2 _ _ (by omega) (by simp) rfl (by omega) (by omega) (by omega) hb,
  Ap5 b 10 4 3 _ _ (by omega) (by simp) rfl (by omega) (by omega) (by omega) hb, Ap5 b 14 4 4 _ _ (by omega) (by simp) rfl (by omega) (by omega) (by omega) hb, Md, Acs, if_neg (by rw [Ae]; simp)]
 rfl
theorem Bxj (b : List UInt8) : Hn [84, 84, 65, 49] (b.take (min 4 b.length)) = some (decide (b.take (min 4 b.length) = Avy.take (min 4 b.length))) := by
 have hl : (b.take (min 4 b.length)).length = min 4 b.length := by rw [List.length_take]; omega
 rw [Hn, Fg, if_pos (by rw [Dq, Ac, Ac, hl]; simp; omega), Ac, hl, Dc (by omega) (by simp; omega), Aa, Aa, Int.toNat_natCast]
 congr 1
 rw [Bool.eq_iff_iff]
 rw [decide_eq_true_eq, beq_iff_eq]
 exact eq_comm
theorem Bw5 (b : List UInt8) : Fv (4 : Int) (Ac b) = ((min 4 b.length : Nat) : Int) := by rw [Ajz, Ac]; omega
theorem Auo (b : List UInt8) (hb : b.length < 4611686018427387904) : Pg b = some (Gs b) := by
 rw [Pg, Ajr, Bw5, Dc (by omega) (by omega), Aa, Int.toNat_natCast, Bxj, Aa]
 by_cases h : b.take (min 4 b.length) = Avy.take (min 4 b.length)
 ·rw [if_neg (by simpa using h)]
  by_cases h2 : b.length < 22
  ·rw [if_pos (by rw [Ae, Ac]; simp; omega), rs2 h h2]
  ·have a1 : Ami b 18 4 = some (leU (part b 18 4), 0) := Bbg b 18 4 (by omega) (by omega) (by omega) hb
   rw [if_neg (by rw [Ae, Ac]; simp; omega), a1, Aa]
   simp only
   rw [Dc (by omega) (by omega), Aa, show (18 : Int).toNat = 18 from rfl, Bil _ (by simp; omega), Aa]
   simp only
   rw [Bq3 b h2]
   by_cases h3 : (Hq (b.take 18)).toNat = Du (part b 18 4)
   ·rw [if_neg (by simpa using h3), Bph b h2 hb, Ab3, Ao2]
    rw [show Al [(f0 b : Int), (f1 b : Int), (f2 b : Int), (f3 b : Int), (f4 b : Int)] 0 = some (f0 b : Int) from rfl, show Al [(f0 b : Int), (f1 b : Int), (f2 b : Int), (f3 b : Int), (f4 b : Int)] 1 = some (f1 b : Int) from rfl, show Al [(f0 b : Int), (f1 b : Int), (f2 b : Int), (f3 b : Int), (f4 b : Int)] 2 = some (f2 b : Int) from rfl,
     show Al [(f0 b : Int), (f1 b : Int), (f2 b : Int), (f3 b : Int), (f4 b : Int)] 3 = some (f3 b : Int) from rfl, show Al [(f0 b : Int), (f1 b : Int), (f2 b : Int), (f3 b : Int), (f4 b : Int)] 4 = some (f4 b : Int) from rfl]
    simp only [Aa, Aqc]
    cases h4 : shapeB (f0 b) (f1 b) (f2 b) (f3 b) (f4 b) with
    | false => rw [rs4 h h2 h3 h4]; rfl
    | true =>
     rw [Aue h4, if_neg (by simp), Aa]
     cases h5 : fitB (f1 b) (f3 b) (f4 b) with
     | false => rw [rs5 h h2 h3 h4 h5]; rfl
     | true => rw [rs6 h h2 h3 h4 h5]; rfl
   ·rw [if_pos (by simpa using h3), rs3 h h2 h3]
 ·rw [if_pos (by simpa using h), rs1 h]
theorem Bgq (b : List UInt8) (hb : b.length < 4611686018427387904) : Oz b = some (Gs b) := by
 rw [Oz, Xg, Bw5, Dc (by omega) (by omega), Aa, Int.toNat_natCast, Dc (by omega) (by simp; omega), Aa, Int.toNat_natCast]
 by_cases h : b.take (min 4 b.length) = Avy.take (min 4 b.length)
 ·rw [if_neg (by rw [h]; simp [Avy]), Xc, Xf]
  by_cases h2 : b.length < 22
  ·rw [if_pos (by rw [Ae, Ac]; simp; omega), rs2 h h2]
  ·have a1 : Bb b 18 22 = some (part b 18 4) := Oq 18 4 (by omega)
   have c1 : Bb b 4 6 = some (part b 4 2) := Oq 4 2 (by omega)
   have c2 : Bb b 6 8 = some (part b 6 2) := Oq 6 2 (by omega)
   have c3 : Bb b 8 10 = some (part b 8 2) := Oq 8 2 (by omega)
   have c4 : Bb b 10 14 = some (part b 10 4) := Oq 10 4 (by omega)
   have c5 : Bb b 14 18 = some (part b 14 4) := Oq 14 4 (by omega)
   have hs : Bn (leU (part b 18 4)) (Ad (Hq (b.take 18)) : UInt64) = decide ((Hq (b.take 18)).toNat ≠ Du (part b 18 4)) := by
    rw [← Bq3 b h2, Ahz, Ahz, Bool.eq_iff_iff]; simp only [bne_iff_ne, ne_eq]; exact not_congr eq_comm
   have lp : ∀ a w, a + w ≤ b.length → Ak (part b a w) = some (leU (part b a w)) := fun a w h => Bg9 _ (by rw [Cu h]; omega)
   rw [if_neg (by rw [Ae, Ac]; simp; omega), a1, Aa, Dc (by omega) (by omega), Aa, show (18 : Int).toNat = 18 from rfl, lp _ _ (by omega), Aa, Bn3 _ (by simp; omega), Aa, hs]
   by_cases h3 : (Hq (b.take 18)).toNat = Du (part b 18 4)
   ·rw [if_neg (by simpa using h3), Xr, Pj, c1, Aa, c2, Aa, c3, Aa, c4, Aa, c5, Aa, lp _ _ (by omega), Aa, lp _ _ (by omega), Aa, lp _ _ (by omega), Aa, lp _ _ (by omega), Aa, lp _ _ (by omega), Aa,
     Xz, Aft, Afj (by rw [Cu (by omega)]; omega), Afj (by rw [Cu (by omega)]; omega), Afj (by rw [Cu (by omega)]; omega), Afj (by rw [Cu (by omega)]; omega), Afj (by rw [Cu (by omega)]; omega)]
    rw [show Du (part b 4 2) = f0 b from rfl, show Du (part b 6 2) = f1 b from rfl, show Du (part b 8 2) = f2 b from rfl, show Du (part b 10 4) = f3 b from rfl, show Du (part b 14 4) = f4 b from rfl, Asm, Aa]
    cases h4 : shapeB (f0 b) (f1 b) (f2 b) (f3 b) (f4 b) with
    | false => rw [rs4 h h2 h3 h4]; rfl
    | true =>
     rw [Aya h4, if_neg (by simp), Aa]
     cases h5 : fitB (f1 b) (f3 b) (f4 b) with
     | false => rw [rs5 h h2 h3 h4 h5]; rfl
     | true => rw [rs6 h h2 h3 h4 h5]; rfl
   ·rw [if_pos (by simpa using h3), rs3 h h2 h3]
 ·rw [if_pos (by simpa [Avy] using h), rs1 h]
theorem Bf8 {b : List UInt8} (h : (Gs b).2.2.2.2.2 = 0) : Gs b = ((f0 b : Int), (f1 b : Int), (f2 b : Int), (f3 b : Int), (f4 b : Int), 0) ∧ 22 ≤ b.length ∧ shapeB (f0 b) (f1 b) (f2 b) (f3 b) (f4 b) = true ∧ fitB (f1 b) (f3 b) (f4 b) = true := by
 unfold Gs at h ⊢
 split at h; · simp at h
 rename_i c1; rw [if_neg c1]
 split at h; · simp at h
 rename_i c2; rw [if_neg c2]
 split at h; · simp at h
 rename_i c3; rw [if_neg c3]
 split at h; · simp at h
 rename_i c4; rw [if_neg c4]
 split at h; · simp at h
 rename_i c5; rw [if_neg c5]
 exact ⟨rfl, by omega, by simpa using c4, by simpa using c5⟩
theorem Bgm {f c w r n : Nat} (h : shapeB f c w r n = true) (h2 : fitB c r n = true) : Ct (f : Int) (c : Int) (w : Int) (r : Int) (n : Int) = some (framesL (longN r) n, 0) := by
 have hc : Yw (f : Int) (c : Int) (w : Int) (r : Int) (n : Int) = some 0 := by
  rw [Yw, Aqc, Aa, h, if_neg (by simp), Aue h, Aa, h2]; rfl
 have hd : 4000 / c ≤ 4000 := Nat.div_le_self _ _
 simp only [shapeB, decide_eq_true_eq] at h
 simp only [fitB, decide_eq_true_eq] at h2
 rw [Ct, hc, Aa, if_neg (by rw [Aj]; simp), Bpb (by omega) (by omega) (by omega) (by omega) h2.2]
 rfl
end Go.Pl
