/- A part of the proof of a statement of this seat (see the text that ends in Proof): LwBase, LwUndo. No conditions of its own. -/
import Derived.Test.YtneipcijjnibdaaGreatDoorDuBA
import Derived.Test.YtneipcijjnibdaaGreatDoorDuPA
import Derived.KernelRfl
set_option linter.unusedVariables false
set_option linter.unusedSimpArgs false
namespace Go.Lv
theorem Av4 {a b : Int} (h : -9223372036854775808 ≤ a + b) (h' : a + b ≤ 9223372036854775807) : Aa a b = a + b := by rw [Azq, Lt h h']
theorem Ar2 {a b : Int} (h : -9223372036854775808 ≤ a * b) (h' : a * b ≤ 9223372036854775807) : Cc a b = a * b := by rw [Azl, Lt h h']
theorem Ax1 : LIM = 17179869184 := by decide
theorem Ayo : 36893488147419103231 < Ce := by decide
theorem Avf {α : Type} {l : List α} {n : Nat} (h : n < l.length) : Ah l (n : Int) = some l[n] := by simp [Ah, h]
theorem Awk {α : Type} {l : List α} {n : Nat} (x : α) (h : n < l.length) : Fh l (n : Int) x = some (l.set n x) := by simp [Fh, h]
theorem Avb {α : Type} {l m : List α} (h : l.length + m.length ≤ 17179869184) : Dp l m = some (l ++ m) := by rw [Dp, Ax1, if_pos h]
theorem Ay4 : Dr true = some () := rfl
theorem Iy {α β : Type} (a : α) (f : α → Option β) : Option.bind (some a) f = f a := rfl
end Go.Lv
set_option linter.unusedVariables false
set_option linter.unusedSimpArgs false
namespace Go.Pl
open Go Go.Lv
def Ail (f : LB) (n : Nat) : Bool := (f.getD (n / 8) 0).toNat.testBit (n % 8)
def bfl (f : LB) (n : Nat) : LB := f.set (n / 8) ((f.getD (n / 8) 0) ^^^ UInt8.ofNat (2 ^ (n % 8)))
def bB (a g : Nat) : Nat → Nat → LB → LB
 | 0, _, f => f
 | q + 1, k, f => bB a g q (k + 1) (if g.testBit k = true ∧ a + k < 8 * f.length then bfl f (a + k) else f)
def bF (a g n : Nat) : Nat → Nat → Bool
 | 0, _ => false
 | q + 1, k => (g.testBit k && decide (a + k < 8 * n)) || bF a g n q (k + 1)
theorem Aov (f : LB) (n : Nat) : (bfl f n).length = f.length := by simp [bfl]
theorem Qn (a g : Nat) : ∀ (q k : Nat) (f : LB), (bB a g q k f).length = f.length
 | 0, _, _ => rfl
 | q + 1, k, f => by
  rw [bB, Qn a g q]
  split
  ·exact Aov _ _
  ·rfl
theorem Atk (f : LB) {n m : Nat} (hn : n < 8 * f.length) (hm : m < 8 * f.length) : Ail (bfl f n) m = (Ail f m ^^ decide (m = n)) := by
 unfold Ail bfl
 by_cases h : m / 8 = n / 8
 ·rw [h, List.getD_eq_getElem?_getD, List.getElem?_set_self (by omega), Option.getD_some, UInt8.toNat_xor, Nat.testBit_xor]
  have h1 : (UInt8.ofNat (2 ^ (n % 8))).toNat = 2 ^ (n % 8) := by
   rw [UInt8.toNat_ofNat']
   exact Nat.mod_eq_of_lt (Nat.pow_lt_pow_right (by omega) (by omega : n % 8 < 8))
  rw [h1, Nat.testBit_two_pow]
  congr 1
  exact decide_eq_decide.2 ⟨fun e => by omega, fun e => by subst e; rfl⟩
 ·rw [List.getD_eq_getElem?_getD, List.getElem?_set_ne (Ne.symm h), ← List.getD_eq_getElem?_getD]
  have : decide (m = n) = false := decide_eq_false (fun e => h (by rw [e]))
  rw [this, Bool.xor_false]
theorem Ajn (a g : Nat) : ∀ (q k : Nat) (f : LB) {m : Nat}, m < 8 * f.length → Ail (bB a g q k f) m = (Ail f m ^^ (decide (a + k ≤ m ∧ m < a + k + q) && g.testBit (m - a)))
 | 0, k, f, m, hm => by
  have : decide (a + k ≤ m ∧ m < a + k + 0) = false := decide_eq_false (by omega)
  rw [this]; simp [bB]
 | q + 1, k, f, m, hm => by
  rw [bB]
  have hl : (if g.testBit k = true ∧ a + k < 8 * f.length then bfl f (a + k) else f).length = f.length := by
   split
   ·exact Aov _ _
   ·rfl
  rw [Ajn a g q (k + 1) _ (by rw [hl]; exact hm)]
  by_cases he : m = a + k
  ·subst he
   have h1 : decide (a + (k + 1) ≤ a + k ∧ a + k < a + (k + 1) + q) = false := decide_eq_false (by omega)
   have h2 : decide (a + k ≤ a + k ∧ a + k < a + k + (q + 1)) = true := decide_eq_true (by omega)
   rw [h1, h2, Nat.add_sub_cancel_left, Bool.false_and, Bool.xor_false, Bool.true_and]
   by_cases hg : g.testBit k = true
   ·rw [if_pos ⟨hg, hm⟩, Atk f hm hm, hg]; simp
   ·rw [if_neg (fun h => hg h.1)]
    simp only [Bool.not_eq_true] at hg
    rw [hg, Bool.xor_false]
  ·have h1 : decide (a + (k + 1) ≤ m ∧ m < a + (k + 1) + q) = decide (a + k ≤ m ∧ m < a + k + (q + 1)) := decide_eq_decide.2 (by omega)
   rw [h1]
   congr 1
   split
   ·rename_i h
    rw [Atk f h.2 hm, decide_eq_false he, Bool.xor_false]
   ·rfl
theorem Aqb {f g : LB} (hl : f.length = g.length) (h : ∀ m, m < 8 * f.length → Ail f m = Ail g m) : f = g := by
 refine List.ext_getElem hl fun i h1 h2 => ?_
 apply UInt8.toNat_inj.1
 apply Nat.eq_of_testBit_eq
 intro j
 by_cases hj : j < 8
 ·have := h (8 * i + j) (by omega)
  unfold Ail at this
  rw [show (8 * i + j) / 8 = i by omega, show (8 * i + j) % 8 = j by omega] at this
  simpa [List.getD_eq_getElem?_getD, h1, h2] using this
 ·have e : ∀ c : UInt8, c.toNat.testBit j = false := fun c => Nat.testBit_lt_two_pow (Nat.lt_of_lt_of_le c.toNat_lt (Nat.pow_le_pow_right (by omega) (by omega : 8 ≤ j)))
  rw [e, e]
theorem Awb (a g : Nat) (f : LB) : bB a g 32 0 (bB a g 32 0 f) = f := by
 refine Aqb (by rw [Qn, Qn]) fun m hm => ?_
 rw [Qn, Qn] at hm
 rw [Ajn _ _ _ _ _ (by rw [Qn]; exact hm), Ajn _ _ _ _ _ hm, Bool.xor_assoc, Bool.xor_self, Bool.xor_false]
theorem Au3 {a g n : Nat} : ∀ {q k : Nat}, bF a g n q k = true → ∃ j, k ≤ j ∧ j < k + q ∧ g.testBit j = true ∧ a + j < 8 * n
 | 0, k, h => by simp [bF] at h
 | q + 1, k, h => by
  simp only [bF, Bool.or_eq_true, Bool.and_eq_true, decide_eq_true_eq] at h
  rcases h with ⟨h1, h2⟩ | h
  ·exact ⟨k, Nat.le_refl _, by omega, h1, h2⟩
  ·obtain ⟨j, h1, h2, h3⟩ := Au3 h
   exact ⟨j, by omega, by omega, h3⟩
theorem Baj {a g : Nat} {f : LB} (h : bF a g f.length 32 0 = true) : bB a g 32 0 f ≠ f := by
 obtain ⟨j, h1, h2, h3, h4⟩ := Au3 h
 intro e
 have := Ajn a g 32 0 f (m := a + j) h4
 rw [e, Nat.add_sub_cancel_left, h3, decide_eq_true (by omega : a + 0 ≤ a + j ∧ a + j < a + 0 + 32)] at this
 cases hb : Ail f (a + j) <;> rw [hb] at this <;> simp at this
theorem Bal (g : UInt32) (k : Nat) : geq (Cj (Bj g (GI.toZ (k : Int)).toNat) 1) (1 : UInt32) = g.toNat.testBit k := by
 rw [show (GI.toZ (k : Int)).toNat = k from by simp [GI.toZ], Axe, Avt]
 rw [Nat.testBit_eq_decide_div_mod_eq]
 have h1 : ((Bj g k) &&& 1).toNat = g.toNat / 2 ^ k % 2 := by
  rw [UInt32.toNat_and, Av5]
  exact Nat.and_one_is_mod _
 rw [show ((Bj g k &&& 1) == (1 : UInt32)) = decide ((Bj g k &&& 1) = 1) from rfl]
 refine decide_eq_decide.2 ⟨fun e => by rw [← h1, e]; rfl, fun e => UInt32.toNat_inj.1 (by rw [h1, e]; rfl)⟩
theorem Akd (a : Nat) (g : UInt32) : ∀ (r k q : Nat) (h : Bool) (f : LB), r + k = 32 → r < q → a < 8 * f.length → f.length ≤ 100000 →
  Dj (a : Int) g q (k : Int) h f = Gl (h || bF a g.toNat f.length r k) (bB a g.toNat r k f)
 | r, k, 0, h, f, _, hq, _, _ => absurd hq (Nat.not_lt_zero _)
 | 0, k, q + 1, h, f, hk, _, _, _ => by
  obtain rfl : k = 32 := by omega
  simp only [Dj, Hx]
  rw [if_neg (by decide), bF, Bool.or_false]
  rfl
 | r + 1, k, q + 1, h, f, hk, hq, ha, hl => by
  simp only [Dj, Hx]
  have hk32 : k < 32 := by omega
  have e1 : Bl (k : Int) 32 = true := by simp [Bl, GI.toZ]; omega
  have e2 : Et (k : Int) 0 = true := by simp [Et, GI.toZ]
  have e3 : Aa (a : Int) (k : Int) = ((a + k : Nat) : Int) := by rw [Av4 (by omega) (by omega)]; omega
  have e4 : Cc 8 (Ac f) = ((8 * f.length : Nat) : Int) := by unfold Ac; rw [Ar2 (by omega) (by omega)]; omega
  rw [if_pos e1, e2, Ay4, Iy, Bal, e3, e4]
  have hadd : Aa (k : Int) 1 = ((k + 1 : Nat) : Int) := by rw [Av4 (by omega) (by omega)]; omega
  have go : ∀ (h' : Bool) (f' : LB), f'.length = f.length → Hy (Dj (a : Int) g q) (a : Int) g (k : Int) h' f' = Gl (h' || bF a g.toNat f.length r (k + 1)) (bB a g.toNat r (k + 1) f') := fun h' f' hf' => by
   simp only [Hy, Tr, hadd]
   rw [Akd a g r (k + 1) q h' f' (by omega) (by omega) (by rw [hf']; exact ha) (by rw [hf']; exact hl), hf']
  rw [bF, bB]
  by_cases hb : g.toNat.testBit k = true
  ·rw [if_pos hb]
   by_cases hlt : a + k < 8 * f.length
   ·have e5 : Bl ((a + k : Nat) : Int) ((8 * f.length : Nat) : Int) = true := by simp [Bl, GI.toZ]; omega
    have e6 : Hj ((a + k : Nat) : Int) 8 = (((a + k) / 8 : Nat) : Int) := by
     rw [Az3, Int.tdiv_eq_ediv_of_nonneg (by omega), Lt (by omega) (by omega)]; omega
    have e7 : Ev ((a + k : Nat) : Int) 8 = (((a + k) % 8 : Nat) : Int) := by
     unfold Ev; rw [Int.tmod_eq_emod_of_nonneg (by omega)]; omega
    have e8 : Et (((a + k) % 8 : Nat) : Int) 0 = true := by simp [Et, GI.toZ]; omega
    have hlt8 : (a + k) / 8 < f.length := by omega
    rw [if_pos e5, e6, Avf hlt8]
    simp only [Iy, e7, e8, Ay4]
    rw [Awk _ hlt8, Iy, if_pos ⟨hb, hlt⟩]
    have ef : f.set ((a + k) / 8) (Vs f[(a + k) / 8] (Ef (1 : UInt8) (GI.toZ (((a + k) % 8 : Nat) : Int)).toNat)) = bfl f (a + k) := by
     unfold bfl
     rw [As4, List.getD_eq_getElem?_getD, List.getElem?_eq_getElem hlt8]
     congr 2
     apply UInt8.toNat_inj.1
     rw [Ayw, UInt8.toNat_ofNat', show (GI.toZ (((a + k) % 8 : Nat) : Int)).toNat = (a + k) % 8 from Int.toNat_natCast _]
     simp
    rw [ef, go true _ (Aov _ _)]
    simp [hb, hlt]
   ·have e5 : Bl ((a + k : Nat) : Int) ((8 * f.length : Nat) : Int) = false := by simp [Bl, GI.toZ]; omega
    rw [e5, if_neg (by simp), if_neg (fun h => hlt h.2), go h f rfl]
    simp [hlt]
  ·rw [if_neg hb, if_neg (fun h => hb h.1), go h f rfl]
   simp only [Bool.not_eq_true] at hb
   simp [hb]
theorem Aj5 (f : LB) (bit : Int) (g : UInt32) (hl : f.length ≤ 100000) : Gk f bit g =
  if 0 ≤ bit ∧ bit < 8 * f.length ∧ bF bit.toNat g.toNat f.length 32 0 = true then some (bB bit.toNat g.toNat 32 0 f, 0) else some ([], 2) := by
 unfold Gk Lf
 have e4 : Cc 8 (Ac f) = ((8 * f.length : Nat) : Int) := by unfold Ac; rw [Ar2 (by omega) (by omega)]; omega
 have hc : Eg f = some f := by unfold Eg; rw [Avb (by simp; omega)]; rfl
 rw [e4, hc, Iy]
 by_cases hb : 0 ≤ bit ∧ bit < 8 * f.length
 ·have h1 : (Bl bit 0 || Et bit ((8 * f.length : Nat) : Int)) = false := by simp [Bl, Et, GI.toZ]; omega
  rw [h1]
  obtain ⟨a, rfl⟩ := Int.eq_ofNat_of_zero_le hb.1
  have := Akd a g 32 0 Ce false f rfl (by have := Ayo; omega) (by omega) hl
  rw [show ((0 : Nat) : Int) = 0 from rfl] at this
  rw [Int.toNat_natCast, Kv, this, Bool.false_or]
  unfold Gl
  cases hf : bF a g.toNat f.length 32 0 with
  | true => exact (if_pos ⟨hb.1, hb.2, rfl⟩).symm
  | false => exact (if_neg (fun h => by cases h.2.2)).symm
 ·have h1 : (Bl bit 0 || Et bit ((8 * f.length : Nat) : Int)) = true := by simp [Bl, Et, GI.toZ]; omega
  rw [h1]
  exact (if_neg (fun h => hb ⟨h.1, h.2.1⟩)).symm
theorem Ath (f : LB) (at_ : Int) (g : UInt8) (hl : f.length ≤ 100000) : Is f at_ g = if 0 ≤ at_ ∧ at_ < f.length ∧ g ≠ 0 then some (f.set at_.toNat ((f.getD at_.toNat 0) ^^^ g), 0) else some ([], 2) := by
 unfold Is
 have hc : Eg f = some f := by unfold Eg; rw [Avb (by simp; omega)]; rfl
 rw [hc, Iy]
 by_cases hb : 0 ≤ at_ ∧ at_ < f.length ∧ g ≠ 0
 ·obtain ⟨h1, h2, h3⟩ := hb
  have e1 : ((Bl at_ 0 || Et at_ (Ac f)) || geq g 0) = false := by
   rw [Avk]; simp [Bl, Et, GI.toZ, Ac, h3]; omega
  rw [e1]
  obtain ⟨a, rfl⟩ := Int.eq_ofNat_of_zero_le h1
  have hlt : a < f.length := by omega
  rw [Avf hlt]
  simp only [Iy]
  rw [Awk _ hlt, Iy, As4, Int.toNat_natCast, List.getD_eq_getElem?_getD, List.getElem?_eq_getElem hlt]
  exact (if_pos ⟨h1, h2, h3⟩).symm
 ·have e1 : ((Bl at_ 0 || Et at_ (Ac f)) || geq g 0) = true := by
   rw [Avk]; simp only [Bl, Et, GI.toZ, Ac, Bool.or_eq_true, decide_eq_true_eq, beq_iff_eq]
   by_cases h : g = 0
   ·exact .inr h
   ·refine .inl ?_
    by_cases h1 : at_ < 0
    ·exact .inl h1
    ·exact .inr (decide_eq_true (Int.not_lt.1 fun h2 => hb ⟨by omega, h2, h⟩))
  rw [e1]
  exact (if_neg hb).symm
theorem Aum (f : LB) {a : Nat} (g : UInt8) (ha : a < f.length) {m : Nat} (hm : m < 8 * f.length) : Ail (f.set a ((f.getD a 0) ^^^ g)) m = (Ail f m ^^ (decide (m / 8 = a) && g.toNat.testBit (m % 8))) := by
 unfold Ail
 by_cases h : m / 8 = a
 ·subst h
  rw [List.getD_eq_getElem?_getD, List.getElem?_set_self ha, Option.getD_some, UInt8.toNat_xor, Nat.testBit_xor]
  simp
 ·rw [List.getD_eq_getElem?_getD, List.getElem?_set_ne (Ne.symm h), ← List.getD_eq_getElem?_getD, decide_eq_false h, Bool.false_and, Bool.xor_false]
theorem Ba4 (g : UInt8) : (Ak g : UInt32).toNat = g.toNat := by
 have e : (Ak g : UInt32) = UInt32.ofNat g.toNat := by simp only [Ak, Ajp, Wf]
 rw [e, UInt32.toNat_ofNat']
 exact Nat.mod_eq_of_lt (by have := g.toNat_lt; omega)
theorem tb8 (c : UInt8) {j : Nat} (hj : 8 ≤ j) : c.toNat.testBit j = false := Nat.testBit_lt_two_pow (Nat.lt_of_lt_of_le c.toNat_lt (Nat.pow_le_pow_right (by omega) hj))
theorem Arj (f : LB) {a : Nat} (g : UInt8) (ha : a < f.length) : bB (8 * a) g.toNat 32 0 f = f.set a ((f.getD a 0) ^^^ g) := by
 refine Aqb (by rw [Qn, List.length_set]) fun m hm => ?_
 rw [Qn] at hm
 rw [Ajn _ _ _ _ _ hm, Aum f g ha hm]
 congr 1
 by_cases h1 : m / 8 = a
 ·rw [decide_eq_true h1, decide_eq_true (by omega), show m - 8 * a = m % 8 by omega]
 ·rw [decide_eq_false h1, Bool.false_and]
  by_cases h2 : 8 * a + 0 ≤ m ∧ m < 8 * a + 0 + 32
  ·rw [tb8 g (by omega), Bool.and_false]
  ·rw [decide_eq_false h2, Bool.false_and]
theorem Az2 {f : LB} {a : Nat} {x : UInt8} (ha : a < f.length) (h : x ≠ f.getD a 0) : f.set a x ≠ f := by
 intro e
 have := congrArg (fun l : LB => l.getD a 0) e
 simp only [List.getD_eq_getElem?_getD, List.getElem?_set_self ha, Option.getD_some] at this
 exact h (by rw [this, List.getD_eq_getElem?_getD])
theorem Aym {a n : Nat} {g : UInt8} (ha : a < n) (hg : g ≠ 0) : bF (8 * a) g.toNat n 32 0 = true := by
 have key : ∀ (q k j : Nat), k ≤ j → j < k + q → g.toNat.testBit j = true → 8 * a + j < 8 * n → bF (8 * a) g.toNat n q k = true := by
  intro q
  induction q with
  | zero => intro k j h1 h2; omega
  | succ q ih =>
   intro k j h1 h2 h3 h4
   rw [bF]
   by_cases e : j = k
   ·subst e; rw [h3, decide_eq_true h4]; rfl
   ·rw [ih (k + 1) j (by omega) (by omega) h3 h4, Bool.or_true]
 obtain ⟨j, hj⟩ : ∃ j, g.toNat.testBit j = true := Nat.exists_testBit_of_ne_zero (fun e => hg (UInt8.toNat_inj.1 e))
 have hj8 : j < 8 := Nat.lt_of_not_le fun h => by rw [tb8 g h] at hj; cases hj
 exact key 32 0 j (Nat.zero_le _) (by omega) hj (by omega)
theorem Axj (hal : Ez = some true) (b : LB) (at_ : Int) (by_ : UInt8) (bit : Int) (mask : UInt32) : Dh b at_ by_ bit mask = some true := by
 unfold Dh Dv
 rw [hal, Iy]
 by_cases hlen : b.length ≤ 1000
 ·have e0 : (En (Ac b) 1000 || !true) = false := by simp [En, GI.toZ, Ac]; omega
  rw [e0]
  have tail : Cm b bit mask true = some true := by
   unfold Cm Gh
   rw [Aj5 b bit mask (by omega)]
   by_cases hc : 0 ≤ bit ∧ bit < 8 * b.length ∧ bF bit.toNat mask.toNat b.length 32 0 = true
   ·rw [if_pos hc, Iy]
    simp only [show Bf (0 : Int) 0 = false from rfl]
    rw [Aj5 _ bit mask (by rw [Qn]; omega), Qn, if_pos hc, Awb]
    have : (bB bit.toNat mask.toNat 32 0 b != b) = true := bne_iff_ne.2 (Baj hc.2.2)
    simp [this, show geq (0 : Int) 0 = true from rfl]
   ·rw [if_neg hc, Iy]; rfl
  rw [Ath b at_ by_ (by omega)]
  by_cases hc : 0 ≤ at_ ∧ at_ < b.length ∧ by_ ≠ 0
  ·obtain ⟨h1, h2, h3⟩ := hc
   obtain ⟨a, rfl⟩ := Int.eq_ofNat_of_zero_le h1
   have ha : a < b.length := by omega
   have hcc : 0 ≤ (a : Int) ∧ (a : Int) < b.length ∧ by_ ≠ 0 := ⟨h1, h2, h3⟩
   rw [if_pos hcc, Iy]
   simp only [show geq (0 : Int) 0 = true from rfl, if_true, Int.toNat_natCast]
   rw [Ath _ _ _ (by rw [List.length_set]; omega), List.length_set, if_pos hcc, Iy]
   have e8 : Cc 8 (a : Int) = ((8 * a : Nat) : Int) := by rw [Ar2 (by omega) (by omega)]; omega
   rw [e8, Aj5 _ _ _ (by omega), Int.toNat_natCast, Ba4, if_pos (show 0 ≤ ((8 * a : Nat) : Int) ∧ ((8 * a : Nat) : Int) < 8 * b.length ∧ bF (8 * a) by_.toNat b.length 32 0 = true from ⟨by omega, by omega, Aym ha h3⟩), Iy, Arj b by_ ha]
   have hx : ∀ x y : UInt8, x ^^^ y ^^^ y = x := fun x y => by rw [UInt8.xor_assoc, UInt8.xor_self, UInt8.xor_zero]
   have e9 : (b.set a (b.getD a 0 ^^^ by_)).set a ((b.set a (b.getD a 0 ^^^ by_)).getD a 0 ^^^ by_) = b := by
    rw [List.set_set]
    have : (b.set a (b.getD a 0 ^^^ by_)).getD a 0 = b.getD a 0 ^^^ by_ := by rw [List.getD_eq_getElem?_getD, List.getElem?_set_self ha]; rfl
    rw [this, hx, List.getD_eq_getElem?_getD, List.getElem?_eq_getElem ha]
    exact List.set_getElem_self ha
   have e10 : (b.set a (b.getD a 0 ^^^ by_) == b) = false := by
    refine beq_eq_false_iff_ne.2 (Az2 ha fun e => h3 ?_)
    have := congrArg (b.getD a 0 ^^^ ·) e
    simp only [← UInt8.xor_assoc, UInt8.xor_self, UInt8.zero_xor] at this
    exact this
   simp only [Int.toNat_natCast, e9, e10, show Bf (0 : Int) 0 = false from rfl, bne_self_eq_false, Bool.or_self]
   exact tail
  ·rw [if_neg hc, Iy]
   simp only [show geq (2 : Int) 0 = false from rfl]
   have : (Et at_ 0 && Bl at_ (Ac b) && Bf by_ 0) = false := by
    rw [Azw]
    simp only [Et, Bl, GI.toZ, Ac, Bool.and_eq_false_iff, decide_eq_false_iff_not, bne_eq_false_iff_eq]
    by_cases h : by_ = 0
    ·exact .inr h
    ·refine .inl ?_
     by_cases h1 : at_ ≥ 0
     ·exact .inr (decide_eq_false fun h2 => hc ⟨h1, h2, h⟩)
     ·exact .inl h1
   rw [this]
   exact tail
 ·have e0 : (En (Ac b) 1000 || !true) = true := by simp [En, GI.toZ, Ac]; omega
  rw [e0]
  rfl
theorem Axs : Ez = some true := by kernel_rfl
theorem law_DamageUndo (b : LB) (at_ : Int) (by_ : UInt8) (bit : Int) (mask : UInt32) : Dh b at_ by_ bit mask = some true := Axj Axs b at_ by_ bit mask
end Go.Pl
