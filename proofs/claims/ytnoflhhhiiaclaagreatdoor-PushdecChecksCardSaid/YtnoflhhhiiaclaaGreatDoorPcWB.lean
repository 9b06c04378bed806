/- A part of the proof of a statement of this seat (see the text that ends in Proof): LwSeek, LwOpen, LwFrame, LwBack, LwGot, LwWs, LwGoes, LwPol, LwRt, LwClip, LwPts, LwTrc, LwPd, LwDt, LwDu, LwNn, LwHdI, LwFit, LwFitC, LwStart, LwChk, LwChkT, LwChkF, LwPc. No conditions of its own. -/
import Derived.Test.YtnoflhhhiiaclaaGreatDoorPcWA
set_option linter.unusedVariables false
set_option linter.unusedSimpArgs false
namespace Go.Pl
open Go Go.Lv
def okL : List Int → Int → Bool
 | [], _ => true
 | x :: l, left => decide (5 ≤ x ∧ x ≤ left) && okL l (left - x)
theorem Bqu : ∀ l : List Int, (∀ x ∈ l, 5 ≤ x) → 0 ≤ l.sum
 | [], _ => by simp
 | x :: l, h => by
  have h1 := h x List.mem_cons_self
  have h2 := Bqu l fun y hy => h y (List.mem_cons_of_mem _ hy)
  rw [List.sum_cons]; omega
theorem Atf : ∀ (l : List Int) (left : Int), 0 ≤ left → (okL l left = true ↔ (∀ x ∈ l, 5 ≤ x) ∧ l.sum ≤ left)
 | [], left, h => by simp [okL]; exact h
 | x :: l, left, h => by
  rw [okL, Bool.and_eq_true, decide_eq_true_eq, List.sum_cons]
  by_cases hx : 5 ≤ x ∧ x ≤ left
  ·rw [Atf l (left - x) (by omega)]
   constructor
   ·rintro ⟨_, h1, h2⟩
    exact ⟨fun y hy => (List.mem_cons.1 hy).elim (fun e => e ▸ hx.1) (h1 y), by omega⟩
   ·rintro ⟨h1, h2⟩
    exact ⟨hx, fun y hy => h1 y (List.mem_cons_of_mem _ hy), by omega⟩
  ·constructor
   ·rintro ⟨h1, _⟩; exact absurd h1 hx
   ·rintro ⟨h1, h2⟩
    have h3 := h1 x List.mem_cons_self
    have : 0 ≤ l.sum := Bqu l fun y hy => h1 y (List.mem_cons_of_mem _ hy)
    omega
theorem Auz (l : List Int) (hl : l.length ≤ 1000) : ∀ (j i q : Nat) (left : Int), i + j = l.length → j < q → 0 ≤ left → left ≤ 100000 → Pw l q left (i : Int) = some (if okL (l.drop i) left = true then 0 else 8)
 | 0, i, q + 1, left, hi, _, _, _ => by
  rw [Pw, Aau, if_neg (by rw [Ae, Ac]; simp; omega), show i = l.length by omega, List.drop_length]; rfl
 | j + 1, i, q + 1, left, hi, hq, h0, h1 => by
  have hlt : i < l.length := by omega
  rw [Pw, Aau, if_pos (by rw [Ae, Ac]; simp; omega), Dk hlt, Aa, drop_cons hlt]
  by_cases h : 5 ≤ l[i] ∧ l[i] ≤ left
  ·rw [if_neg (by simp [Ae, Bb]; omega), Ce (by omega) (by omega), Ag (by omega) (by omega)]
   have ih := Auz l hl j (i + 1) q (left - l[i]) (by omega) (by omega) (by omega) (by omega)
   rw [show ((i : Int) + 1) = ((i + 1 : Nat) : Int) by omega, ih]
   simp [okL, h]
  ·rw [if_pos (by simp [Ae, Bb]; omega)]
   have : okL (l[i] :: l.drop (i + 1)) left = false := by rw [okL, decide_eq_false h]; rfl
   rw [this]; rfl
def tabB (l : List Int) : Bool := decide (1 ≤ l.length ∧ l.length ≤ 1000) && okL l 100000
theorem Az4 (l : List Int) (hl : l.length ≤ 1000) : Ql l = some (if tabB l = true then 0 else 8) := by
 rw [Ql, Zx, tabB]
 by_cases h : 1 ≤ l.length
 ·rw [if_neg (by rw [Be, Bb, Ac]; simp; constructor; (intro e; subst e; simp at h); omega), Agd]
  have := Auz l hl l.length 0 Bc 100000 (by omega) (by have := Ay; omega) (by omega) (by omega)
  rw [List.drop_zero] at this
  rw [decide_eq_true (show 1 ≤ l.length ∧ l.length ≤ 1000 from ⟨h, hl⟩), Bool.true_and]
  exact this
 ·have : l = [] := by
   cases l with
   | nil => rfl
   | cons _ _ => simp at h
  subst this; rfl
theorem Ayz (l : List Int) (hl : l.length ≤ 1000) : ∀ (j i q : Nat) (s : Int), i + j = l.length → j < q → 0 ≤ s → s ≤ 100000 * (i : Int) → Fj l q s (i : Int) = some (if (∀ x ∈ l.drop i, 5 ≤ x ∧ x ≤ 100000) ∧ s + (l.drop i).sum ≤ 100000 then 0 else 8)
 | 0, i, q + 1, s, hi, _, _, _ => by
  rw [Fj, Lo, if_neg (by rw [Ae, Ac]; simp; omega), show i = l.length by omega, List.drop_length, Ru, Abg]
  by_cases h : s ≤ 100000
  ·rw [if_neg (by rw [Bb]; simp; omega), if_pos (by simp; omega)]
  ·rw [if_pos (by rw [Bb]; simp; omega), if_neg (by simp; omega)]
 | j + 1, i, q + 1, s, hi, hq, h0, h1 => by
  have hlt : i < l.length := by omega
  rw [Fj, Lo, if_pos (by rw [Ae, Ac]; simp; omega), Dk hlt, Aa, drop_cons hlt]
  by_cases h5 : l[i] < 5
  ·rw [if_pos (by rw [Ae]; simpa using h5), if_neg (fun h => by have := (h.1 l[i] List.mem_cons_self).1; omega)]
  ·rw [if_neg (by rw [Ae]; simpa using h5), Aa]
   by_cases h6 : 100000 < l[i]
   ·rw [if_pos (by rw [Bb]; simpa using h6), if_neg (fun h => by have := (h.1 l[i] List.mem_cons_self).2; omega)]
   ·rw [if_neg (by rw [Bb]; simpa using h6), Sn, Ab3, Dk hlt, Aa, Ag (by omega) (by omega), Ag (by omega) (by omega)]
    have ih := Ayz l hl j (i + 1) q (s + l[i]) (by omega) (by omega) (by omega) (by omega)
    rw [show ((i : Int) + 1) = ((i + 1 : Nat) : Int) by omega, ih]
    have e : ((∀ x ∈ l.drop (i + 1), 5 ≤ x ∧ x ≤ 100000) ∧ s + l[i] + (l.drop (i + 1)).sum ≤ 100000) ↔ ((∀ x ∈ l[i] :: l.drop (i + 1), 5 ≤ x ∧ x ≤ 100000) ∧ s + (l[i] :: l.drop (i + 1)).sum ≤ 100000) := by
     rw [List.sum_cons, List.forall_mem_cons, Int.add_assoc]
     constructor
     ·rintro ⟨a, b⟩; exact ⟨⟨by omega, a⟩, b⟩
     ·rintro ⟨⟨_, a⟩, b⟩; exact ⟨a, b⟩
    simp only [e]
theorem Bd1 : ∀ {l : List Int}, (∀ x ∈ l, 5 ≤ x) → ∀ x ∈ l, x ≤ l.sum
 | [], _, x, hx => by simp at hx
 | y :: l, h, x, hx => by
  have h1 := h y List.mem_cons_self
  have h2 := Bqu l fun z hz => h z (List.mem_cons_of_mem _ hz)
  rw [List.sum_cons]
  rcases List.mem_cons.1 hx with rfl | hx
  ·omega
  ·have := Bd1 (l := l) (fun z hz => h z (List.mem_cons_of_mem _ hz)) x hx
   omega
theorem Bbl (l : List Int) (hl : l.length ≤ 1000) : En l = some (if tabB l = true then 0 else 8) := by
 rw [En, Lw, tabB]
 by_cases h : 1 ≤ l.length
 ·have := Ayz l hl l.length 0 Bc 0 (by omega) (by have := Ay; omega) (by omega) (by omega)
  rw [if_neg (by rw [Ae, Bb, Ac]; simp; omega), Sy]
  refine Eq.trans this ?_
  rw [List.drop_zero, decide_eq_true (show 1 ≤ l.length ∧ l.length ≤ 1000 from ⟨h, hl⟩), Bool.true_and]
  have e : ((∀ x ∈ l, 5 ≤ x ∧ x ≤ 100000) ∧ 0 + l.sum ≤ 100000) ↔ okL l 100000 = true := by
   rw [Atf l 100000 (by omega), Int.zero_add]
   constructor
   ·rintro ⟨a, b⟩; exact ⟨fun x hx => (a x hx).1, b⟩
   ·rintro ⟨a, b⟩; exact ⟨fun x hx => ⟨a x hx, Int.le_trans (Bd1 a x hx) b⟩, b⟩
  simp only [e]
 ·have : l = [] := by
   cases l with
   | nil => rfl
   | cons _ _ => simp at h
  subst this; rfl
theorem Ami (l : List Int) : Ql l = some (if tabB l = true then 0 else 8) := by
 by_cases hl : l.length ≤ 1000
 ·exact Az4 l hl
 ·rw [Ql, Zx, if_pos (by rw [Bb, Ac]; simp; omega), tabB, decide_eq_false (by omega)]; rfl
theorem Aoe (l : List Int) : En l = some (if tabB l = true then 0 else 8) := by
 by_cases hl : l.length ≤ 1000
 ·exact Bbl l hl
 ·rw [En, Lw, if_pos (by rw [Bb, Ac]; simp; omega), tabB, decide_eq_false (by omega)]; rfl
theorem Bey (l : List Int) (hl : l.length ≤ 1000) (hx : ∀ x ∈ l, 0 ≤ x ∧ x < 4294967296) : Ql l = some (if tabB l = true then 0 else 8) := Ami l
theorem Bix (l : List Int) (hl : l.length ≤ 1000) (hx : ∀ x ∈ l, 0 ≤ x ∧ x < 4294967296) : En l = some (if tabB l = true then 0 else 8) := Aoe l
def Aid (b : List UInt8) (n : Nat) : List Int := (List.range n).map fun i => (Eh (part b (4 * i) 4) : Int)
theorem Af8 (b : List UInt8) (n : Nat) : (Aid b n).length = n := by simp [Aid]
theorem Ayt (b : List UInt8) (n : Nat) : Aid b (n + 1) = Aid b n ++ [(Eh (part b (4 * n) 4) : Int)] := by simp [Aid, List.range_succ]
theorem Bg3 (b : List UInt8) (n : Nat) (h : 4 * n ≤ b.length) : ∀ x ∈ Aid b n, 0 ≤ x ∧ x < 4294967296 := by
 intro x hx
 simp only [Aid, List.mem_map, List.mem_range] at hx
 obtain ⟨i, hi, rfl⟩ := hx
 have := Bgx (l := part b (4 * i) 4) (by rw [Db (by omega)]; omega)
 omega
def Np (b : List UInt8) (n : Nat) : List Int × Int :=
 if ¬ (1 ≤ n ∧ n ≤ 1000) then ([], 2) else if b.length < 4 * n + 4 then ([], 24) else if (Hc (b.take (4 * n))).toNat ≠ Eh (part b (4 * n) 4) then ([], 22) else
 if tabB (Aid b n) = true then (Aid b n, 0) else ([], 12)
theorem Bf9 {b : List UInt8} {n : Nat} (h : 1 ≤ n ∧ n ≤ 1000) (h2 : ¬ b.length < 4 * n + 4) : Cm (Ad (Hc (b.take (4 * n))) : UInt64) (leU (part b (4 * n) 4)) = decide ((Hc (b.take (4 * n))).toNat ≠ Eh (part b (4 * n) 4)) := by
 rw [Afp, Hr, Bool.eq_iff_iff]
 simp only [bne_iff_ne, ne_eq, decide_eq_true_eq]
 rw [← UInt64.toNat_inj, Ahp (by have := (Hc (b.take (4 * n))).toNat_lt; omega), Ahy (by rw [Db (by omega)]; omega)]
section
variable {b : List UInt8} {n : Nat}
theorem ss1 (h : ¬ (1 ≤ n ∧ n ≤ 1000)) : Np b n = ([], 2) := by rw [Np, if_pos h]
variable (h : 1 ≤ n ∧ n ≤ 1000)
include h
theorem ss2 (h2 : b.length < 4 * n + 4) : Np b n = ([], 24) := by rw [Np, if_neg (fun e => e h), if_pos h2]
variable (h2 : ¬ b.length < 4 * n + 4)
include h2
theorem ss3 (h3 : (Hc (b.take (4 * n))).toNat ≠ Eh (part b (4 * n) 4)) : Np b n = ([], 22) := by rw [Np, if_neg (fun e => e h), if_neg h2, if_pos h3]
theorem ss4 (h3 : (Hc (b.take (4 * n))).toNat = Eh (part b (4 * n) 4)) : Np b n = if tabB (Aid b n) = true then (Aid b n, 0) else ([], 12) := by rw [Np, if_neg (fun e => e h), if_neg h2, if_neg (fun e => e h3)]
end
theorem Aya (b : List UInt8) (l8 : List Int) (n : Nat) (hn : n ≤ 1000) (h8 : l8.length = n) (hb : 4 * n + 4 ≤ b.length) (hb2 : b.length < 4611686018427387904) : ∀ (j i q : Nat), i + j = n → j < q → Sf b l8 q (i : Int) (Aid b i ++ List.replicate j 0) = Ac4 (Aid b n)
 | 0, i, q + 1, hi, _ => by
  obtain rfl : i = n := by omega
  rw [Sf, Ac9, if_neg (by rw [Ae, Ac]; simp; omega)]; simp
 | j + 1, i, q + 1, hi, hq => by
  have hlen : (Aid b i ++ List.replicate (j + 1) 0).length = i + (j + 1) := by simp [Af8]
  have ha := Axv b (4 * i) 4 (by omega) (by omega) (by omega) hb2
  rw [Sf, Ac9, if_pos (by rw [Ae, Ac]; simp; omega), Hs (by omega) (by omega), show (4 : Int) * (i : Int) = ((4 * i : Nat) : Int) by omega, show (4 : Int) = ((4 : Nat) : Int) from rfl, ha, Aa]
  simp only
  rw [Dk (by rw [hlen]; omega), Aa, Wu _ (by rw [hlen]; omega), Aa, Acy (by rw [Db (by omega)]; omega), Ag (by omega) (by omega), List.replicate_succ, An3 (Af8 _ _)]
  have ih := Aya b l8 n hn h8 hb hb2 j (i + 1) q (by omega) (by omega)
  rw [Ayt] at ih
  rw [show ((i : Int) + 1) = ((i + 1 : Nat) : Int) by omega, ← ih]
  simp
theorem Bja (b : List UInt8) (n : Nat) (hb : b.length ≤ 100100) : Akv b (n : Int) = some (Np b n) := by
 rw [Akv, Aiw]
 by_cases h : 1 ≤ n ∧ n ≤ 1000
 ·rw [if_neg (by simp [Ae, Bb]; omega), Hs (by omega) (by omega), Ag (by omega) (by omega)]
  by_cases h2 : b.length < 4 * n + 4
  ·rw [if_pos (by rw [Ae, Ac]; simp; omega), ss2 h h2]
  ·have ha : Ajn b (4 * (n : Int)) 4 = some (leU (part b (4 * n) 4), 0) := by
    rw [show (4 : Int) * (n : Int) = ((4 * n : Nat) : Int) by omega]
    exact Axv b (4 * n) 4 (by omega) (by omega) (by omega) (by omega)
   rw [if_neg (by rw [Ae, Ac]; simp; omega), ha, Aa]
   simp only
   rw [Gd (by omega) (by omega), Aa, show (4 * (n : Int)).toNat = 4 * n by omega, Bd7 _ (by simp; omega), Aa]
   simp only
   rw [Bf9 h h2]
   by_cases h3 : (Hc (b.take (4 * n))).toNat = Eh (part b (4 * n) 4)
   ·have hlp := Aya b (List.replicate n 0) n (by omega) (by simp) (by omega) (by omega) n 0 Bc (by omega) (by have := Ay; omega)
    rw [if_neg (by simpa using h3), Awn (by omega) (by omega), Aa, Cu (by rw [Be]; simp), Aa, Aiq, Int.toNat_natCast]
    refine Eq.trans (hlp) ?_
    rw [Ac4, Aow, Bey _ (by rw [Af8]; omega) (Bg3 b n (by omega)), Aa, ss4 h h2 h3]
    cases tabB (Aid b n) <;> rfl
   ·rw [if_pos (by simpa using h3), ss3 h h2 h3]
 ·rw [if_pos (by simp [Ae, Bb]; omega), ss1 h]
theorem Aoi (b : List UInt8) (n : Nat) (hn : n ≤ 1000) (hb : 4 * n + 4 ≤ b.length) (hb2 : b.length < 4611686018427387904) : ∀ (j i q : Nat), i + j = n → j < q → Gl b (n : Int) q (i : Int) (Aid b i) = Mu (Aid b n)
 | 0, i, q + 1, hi, _ => by
  obtain rfl : i = n := by omega
  rw [Gl, Na, if_neg (by rw [Ae]; simp)]
 | j + 1, i, q + 1, hi, hq => by
  have hc : Bs b ((4 : Int) * (i : Int)) ((4 : Int) * (i : Int) + 4) = some (part b (4 * i) 4) := by
   rw [show (4 : Int) * (i : Int) = ((4 * i : Nat) : Int) by omega]
   exact Nr (4 * i) 4 (by omega)
  rw [Gl, Na, if_pos (by rw [Ae]; simp; omega), Hs (by omega) (by omega), Ag (by omega) (by omega), hc, Aa, Bcy _ (by rw [Db (by omega)]; omega), Aa, Fc (by rw [Af8]; simp; omega), Aa,
   Acy (by rw [Db (by omega)]; omega), Ag (by omega) (by omega), ← Ayt]
  exact Aoi b n hn hb hb2 j (i + 1) q (by omega) (by omega)
theorem Bjz (b : List UInt8) (n : Nat) (hb : b.length ≤ 100100) : Un b (n : Int) = some (Np b n) := by
 rw [Un, Wa]
 by_cases h : 1 ≤ n ∧ n ≤ 1000
 ·rw [if_neg (by simp [Ae, Bb]; omega), Hs (by omega) (by omega), Ag (by omega) (by omega)]
  by_cases h2 : b.length < 4 * n + 4
  ·rw [if_pos (by rw [Ae, Ac]; simp; omega), ss2 h h2]
  ·have hc : Bs b ((4 : Int) * (n : Int)) ((4 : Int) * (n : Int) + 4) = some (part b (4 * n) 4) := by
    rw [show (4 : Int) * (n : Int) = ((4 * n : Nat) : Int) by omega]
    exact Nr (4 * n) 4 (by omega)
   have hs : Cm (leU (part b (4 * n) 4)) (Ad (Hc (b.take (4 * n))) : UInt64) = decide ((Hc (b.take (4 * n))).toNat ≠ Eh (part b (4 * n) 4)) := by
    rw [← Bf9 h h2, Afp, Afp, Bool.eq_iff_iff]; simp only [bne_iff_ne, ne_eq]; exact not_congr eq_comm
   rw [if_neg (by rw [Ae, Ac]; simp; omega), hc, Aa, Gd (by omega) (by omega), Aa, show (4 * (n : Int)).toNat = 4 * n by omega, Bcy _ (by rw [Db (by omega)]; omega), Aa, Bkt _ (by simp; omega), Aa, hs]
   by_cases h3 : (Hc (b.take (4 * n))).toNat = Eh (part b (4 * n) 4)
   ·have hlp := Aoi b n (by omega) (by omega) (by omega) n 0 Bc (by omega) (by have := Ay; omega)
    rw [if_neg (by simpa using h3), Vz, Wc, Vv]
    refine Eq.trans hlp ?_
    rw [Mu, Aec, Bix _ (by rw [Af8]; omega) (Bg3 b n (by omega)), Aa, ss4 h h2 h3]
    cases tabB (Aid b n) <;> rfl
   ·rw [if_pos (by simpa using h3), ss3 h h2 h3]
 ·rw [if_pos (by simp [Ae, Bb]; omega), ss1 h]
theorem Bmw {b : List UInt8} {n : Nat} (h : (Np b n).2 = 0) : Np b n = (Aid b n, 0) ∧ 1 ≤ n ∧ n ≤ 1000 ∧ 4 * n + 4 ≤ b.length ∧ (∀ x ∈ Aid b n, 5 ≤ x) ∧ (Aid b n).sum ≤ 100000 := by
 unfold Np at h ⊢
 split at h; · simp at h
 rename_i c1; rw [if_neg c1]
 split at h; · simp at h
 rename_i c2; rw [if_neg c2]
 split at h; · simp at h
 rename_i c3; rw [if_neg c3]
 split at h
 ·rename_i c4
  rw [if_pos c4]
  have c4' := c4
  rw [tabB, Bool.and_eq_true, Atf _ _ (by omega)] at c4'
  exact ⟨rfl, by omega, by omega, by omega, c4'.2.1, c4'.2.2⟩
 ·simp at h
end Go.Pl
set_option linter.unusedVariables false
set_option linter.unusedSimpArgs false
namespace Go.Pl
open Go Go.Lv
def hdr (b : List UInt8) : List UInt8 := b.drop (Ki b).1.toNat
theorem Bk9 (A K : Nat) (h : A ≤ 200000) (hk : K ≤ 1000) : Af (Af (A : Int) (Bo 4 (K : Int))) 4 = ((A + 4 * K + 4 : Nat) : Int) := by
 rw [Hs (by omega) (by omega), Ag (a := (A : Int)) (by omega) (by omega), Ag (by omega) (by omega)]; omega
end Go.Pl
set_option linter.unusedVariables false
set_option linter.unusedSimpArgs false
namespace Go.Pl
open Go Go.Lv
theorem Bi8 (l : List Int) (i : Nat) : (l.take i).sum + (l.drop i).sum = l.sum := by
 conv => rhs; rw [← List.take_append_drop i l, List.sum_append]
theorem Aon {l : List Int} {i : Nat} (h : i < l.length) : (l.take (i + 1)).sum = (l.take i).sum + l[i] := by
 rw [Ajt h, List.sum_append]; simp
theorem Avj {g n : Nat} (hg : 1 ≤ g) (hn : 1 ≤ n) {x : Int} (h : x ∈ framesL g n) : ∃ m : Nat, x = m ∧ 1 ≤ m ∧ m ≤ n := by
 have hmul := Nat.div_mul_le_self (n - 1) g
 rw [framesL, List.mem_append] at h
 rcases h with h | h
 ·rw [List.mem_replicate] at h
  have h1 : 1 ≤ (n - 1) / g := Nat.pos_of_ne_zero h.1
  have := Nat.mul_le_mul_right g h1
  exact ⟨g, h.2, hg, by omega⟩
 ·rw [List.mem_singleton] at h
  exact ⟨_, h, by omega, by omega⟩
theorem Aqy {f c w r n : Nat} (h : shapeB f c w r n = true) : (1 ≤ c ∧ c ≤ 6) ∧ Du (w : Int) ∧ (1 ≤ r ∧ r ≤ 1048576) ∧ 1 ≤ n ∧ (f = 1 ∨ f = 2) := by
 simp only [shapeB, decide_eq_true_eq] at h
 refine ⟨h.2.1, ?_, h.2.2.2.1, h.2.2.2.2, h.1⟩
 rcases h.2.2.1 with rfl | rfl | rfl
 ·exact .inl rfl
 ·exact .inr (.inl rfl)
 ·exact .inr (.inr rfl)
end Go.Pl
set_option linter.unusedVariables false
set_option linter.unusedSimpArgs false
namespace Go.Pl
open Go Go.Lv
end Go.Pl
set_option linter.unusedVariables false
set_option linter.unusedSimpArgs false
namespace Go.Pl
open Go Go.Lv
theorem Brm {a b : Nat} (h : a < 9223372036854775808) : Cw (a : Int) (b : Int) = ((a / b : Nat) : Int) := by
 have : a / b ≤ a := Nat.div_le_self _ _
 rw [Aer, Int.tdiv_eq_ediv_of_nonneg (by omega), ← Int.natCast_ediv]
 generalize a / b = k at *
 exact By (by omega) (by omega)
end Go.Pl
set_option linter.unusedVariables false
set_option linter.unusedSimpArgs false
namespace Go.Pl
open Go Go.Lv
variable (b : List UInt8)
end Go.Pl
set_option linter.unusedVariables false
set_option linter.unusedSimpArgs false
namespace Go.Pl
open Go Go.Lv
theorem Bqt {c : Nat} {w : Nat} (hc : c ≤ 6) (hw : Du (w : Int)) : Cw (Bo (c : Int) (w : Int)) 8 = ((c * wB (w : Int) : Nat) : Int) := by
 have h : w = 8 ∨ w = 16 ∨ w = 24 := by unfold Du at hw; omega
 have : c = 0 ∨ c = 1 ∨ c = 2 ∨ c = 3 ∨ c = 4 ∨ c = 5 ∨ c = 6 := by omega
 rcases h with rfl | rfl | rfl <;> rcases this with rfl | rfl | rfl | rfl | rfl | rfl | rfl <;> rfl
theorem Br0 {w : Nat} (hw : Du (w : Int)) : 8 * wB (w : Int) = w ∧ w ≤ 24 := by
 have h : w = 8 ∨ w = 16 ∨ w = 24 := by unfold Du at hw; omega
 rcases h with rfl | rfl | rfl <;> exact ⟨rfl, by omega⟩
theorem Brg {t c w : Nat} (ht : t ≤ 4000) (hc : c ≤ 6) (hw : Du (w : Int)) : Cw (Bo (Bo (t : Int) (c : Int)) (w : Int)) 8 = ((t * (c * wB (w : Int)) : Nat) : Int) := by
 obtain ⟨h1, h2⟩ := Br0 hw
 have e1 : (t : Int) * (c : Int) = ((t * c : Nat) : Int) := by simp
 have b1 : t * c ≤ 4000 * 6 := Nat.mul_le_mul ht hc
 have b2 : t * c * w ≤ 24000 * 24 := Nat.mul_le_mul b1 h2
 rw [Hs (a := (t : Int)) (by rw [e1]; omega) (by rw [e1]; omega), e1, Hs (by rw [← Int.natCast_mul]; omega) (by rw [← Int.natCast_mul]; omega), ← Int.natCast_mul, show (8 : Int) = ((8 : Nat) : Int) from rfl, Brm (by omega)]
 congr 1
 generalize wB (w : Int) = W at *
 subst h1
 rw [Nat.mul_left_comm, Nat.mul_div_cancel_left _ (by omega), Nat.mul_assoc]
end Go.Pl
set_option linter.unusedVariables false
set_option linter.unusedSimpArgs false
namespace Go.Pl
open Go Go.Lv
end Go.Pl
set_option linter.unusedVariables false
set_option linter.unusedSimpArgs false
namespace Go.Pl
open Go Go.Lv
end Go.Pl
set_option linter.unusedVariables false
set_option linter.unusedSimpArgs false
namespace Go.Pl
open Go Go.Lv
theorem Bkd {seg p : List UInt8} (hs : seg.length = 8) (hp : p.length ≤ 64) : Afi seg p = some (seg == leB (Adh p).toNat 8, 0) := by
 rw [Afi, Bid p hp, Aa]
 simp only
 rw [if_neg (by rw [Au, Au, Ac, Ac, Pe, hs]; simp), Kq, Aa]
end Go.Pl
set_option linter.unusedVariables false
set_option linter.unusedSimpArgs false
namespace Go.Pl
open Go Go.Lv
def Aze (b : List UInt8) : List Int := framesL (longN (f3 (hdr b))) (f4 (hdr b))
end Go.Pl
set_option linter.unusedVariables false
set_option linter.unusedSimpArgs false
namespace Go.Pl
open Go Go.Lv
end Go.Pl
set_option linter.unusedVariables false
set_option linter.unusedSimpArgs false
namespace Go.Pl
open Go Go.Lv
end Go.Pl
set_option linter.unusedVariables false
set_option linter.unusedSimpArgs false
namespace Go.Pl
open Go Go.Lv
theorem Bac {c r n : Nat} (h : fitB c r n = true) : 1 ≤ (framesL (longN r) n).length ∧ (framesL (longN r) n).length ≤ 1000 := by
 simp only [fitB, decide_eq_true_eq] at h
 rw [As5]; exact ⟨Nat.le_add_left _ _, h.2⟩
end Go.Pl
set_option linter.unusedVariables false
set_option linter.unusedSimpArgs false
namespace Go.Pl
open Go Go.Lv
theorem Bgv (g : Nat) : ∀ K : Nat, (List.replicate K (g : Int)).sum = ((K * g : Nat) : Int)
 | 0 => by simp
 | K + 1 => by
  rw [List.replicate_succ, List.sum_cons, Bgv g K, Nat.succ_mul]; omega
theorem Bcu {g n : Nat} (hn : 1 ≤ n) : (framesL g n).sum = (n : Int) := by
 have h := Nat.div_mul_le_self (n - 1) g
 rw [framesL, List.sum_append, Bgv]
 simp only [List.sum_cons, List.sum_nil]
 omega
theorem Bd5 : ∀ {l : List Int}, (∀ x ∈ l, 0 ≤ x) → 0 ≤ l.sum
 | [], _ => by simp
 | x :: l, h => by
  have h1 := h x List.mem_cons_self
  have h2 := Bd5 (l := l) fun y hy => h y (List.mem_cons_of_mem _ hy)
  rw [List.sum_cons]; omega
theorem Aqs {l : List Int} (h : ∀ x ∈ l, 0 ≤ x) (i : Nat) : 0 ≤ (l.take i).sum ∧ (l.take i).sum ≤ l.sum := by
 have h1 := Bd5 (l := l.take i) fun x hx => h x (List.mem_of_mem_take hx)
 have h2 := Bd5 (l := l.drop i) fun x hx => h x (List.mem_of_mem_drop hx)
 have := Bi8 l i
 omega
def Alw (c w : Nat) (fr : List Int) (k : Nat) : Int := (((fr.take k).sum.toNat * (c * wB (w : Int)) : Nat) : Int)
section
variable {f c w r n : Nat} (h1 : shapeB f c w r n = true) (h2 : fitB c r n = true)
include h1 h2
theorem Ak2 : (∀ x ∈ framesL (longN r) n, 0 ≤ x) ∧ (framesL (longN r) n).sum = (n : Int) ∧ n ≤ 4000 := by
 obtain ⟨hc, hw, hr, hn, _⟩ := Aqy h1
 have hfit : n ≤ 4000 / c := by simp only [fitB, decide_eq_true_eq] at h2; exact h2.1
 have hn4 : n ≤ 4000 := by have := Nat.div_le_self 4000 c; omega
 refine ⟨fun x hx => ?_, Bcu hn, hn4⟩
 obtain ⟨m, rfl, _⟩ := Avj (Ajc r) hn hx
 omega
end
end Go.Pl
set_option linter.unusedVariables false
set_option linter.unusedSimpArgs false
namespace Go.Pl
open Go Go.Lv
theorem Bql (p : List UInt8) (N a k : Nat) : 0 ≤ (rcS p N a k).2.2 := by
 unfold rcS
 repeat' split
 all_goals simp
theorem Br3 (p : List UInt8) (N a k l : Nat) : 0 ≤ (dgS p N a k l).2.2 := by
 have h := Bql p N (a + 1) l
 unfold dgS
 repeat' split
 all_goals simp [h]
theorem Bg7 (ch : Nat) (p : List UInt8) (N : Nat) : ∀ (j a : Nat) (out : List UInt32), 0 ≤ (Wj ch p N j a out).2.2
 | 0, a, out => by rw [Wj]; exact Int.le_refl _
 | j + 1, a, out => by
  rw [Wj]
  split
  ·exact Br3 ..
  ·exact Bg7 ch p N j _ _
theorem Bm9 (b : List UInt8) : 0 ≤ Um b := by
 unfold Um
 repeat' split
 all_goals simp
theorem Ay8 (a : List Int32) (b : Int) : ∀ (q : Nat) (i e : Int), Bh a b q i = some e → 0 ≤ e
 | 0, _, _, h => by rw [Bh] at h; cases h
 | q + 1, i, e, h => by
  rw [Bh, Df] at h
  split at h
  ·cases hg : Aj a i with
   | none => rw [hg] at h; cases h
   | some g =>
    rw [hg, Aa] at h
    split at h
    ·cases h; decide
    ·rw [Aa] at h
     split at h
     ·cases h; decide
     ·exact Ay8 a b q _ e h
  ·cases h; decide
theorem Bfw {bits : Int} {a : List Int32} {e : Int} (h : Bi bits a = some e) : 0 ≤ e := by
 rw [Bi, Fi] at h
 cases hg : Jk bits with
 | none => rw [hg] at h; cases h
 | some g =>
  rw [hg, Aa] at h
  split at h
  ·cases h; decide
  ·split at h
   ·cases h; decide
   ·exact Ay8 a _ _ _ e h
theorem Bia {bits : Int} {ch n : Nat} {t : List Int32} {b : List UInt8} (hb : Du bits) (ht : t.length = 16) (h1 : 1 ≤ ch) (h6 : ch ≤ 6) (n1 : 1 ≤ n) (n2 : n ≤ 4000 / ch) {l : List Int32} {e : Int}
  (h : Hl (ch : Int) bits t (n : Int) b = some (l, e)) : 0 ≤ e := by
 have hn : n * ch ≤ 4000 := by
  have := Nat.mul_le_mul_right ch n2
  have h2 := Nat.div_mul_le_self 4000 ch
  omega
 have hq4 := Bg9 h1 h6
 generalize 4000 / ch = mm at *
 have hh := Arx bits
 have hasked : Io (ch : Int) bits (n : Int) = some 0 := by
  rw [Io, Rc, if_neg (by simp [Ae, Bb]; omega), At0 hb, Aa, if_neg (by rw [Be]; simp; omega), Aa, if_neg (by simp [Au, Ae]; omega), Cu (by rw [Au]; simp; omega), Aa, hq4, if_neg (by rw [Bb]; simp; omega)]
 rw [Hl, Kj, hasked, Aa, if_neg (by rw [Au]; simp), Awl, Aa] at h
 by_cases hs : Um b ≠ 0
 ·rw [if_pos (by rw [Au]; simpa using hs)] at h
  simp only [Aa] at h
  cases h
  exact Bm9 b
 have hs0 : Um b = 0 := by simpa using hs
 have hlen := Bc6 hs0
 have e4 : Ao (Ac b) 4 = ((b.length - 4 : Nat) : Int) := by rw [Ac, Ce (by omega) (by omega)]; omega
 rw [if_neg (by rw [Au, hs0]; simp), e4, Gd (by omega) (by omega), Aa, show ((b.length - 4 : Nat) : Int).toNat = b.length - 4 from rfl] at h
 have hpl : (b.take (b.length - 4)).length = b.length - 4 := by simp
 generalize b.take (b.length - 4) = p at *
 have hr := Bf4 (N := 8 * p.length) (p := p) rfl (by omega) h1 h6 hn
 have hV := Bg7 ch p (8 * p.length) (n * ch) 0 []
 have hat := Atk (ch := ch) (p := p) (N := 8 * p.length) (n * ch) 0 [] (by omega)
 rw [hr, Aa] at h
 generalize Wj ch p (8 * p.length) (n * ch) 0 [] = V at *
 obtain ⟨v, at', er⟩ := V
 simp only at *
 by_cases he : er ≠ 0
 ·rw [if_pos he] at h
  simp only at h
  rw [Ew, Ds, if_pos (by rw [Au]; simpa using he)] at h
  cases h
  exact hV
 have he0 : er = 0 := by simpa using he
 have hvl := hat.2.2 he0
 simp only [List.length_nil, Nat.zero_add] at hvl
 rw [if_neg he] at h
 simp only at h
 rw [Ew, Ds] at h
 split at h
 ·cases h
  decide
 ·rw [if_neg (by decide)] at h
  have hm : v.length % ch = 0 := by rw [hvl]; exact Nat.mul_mod_left n ch
  obtain ⟨l', e', g1, g2, g3, g4, g5⟩ := Aq1 (v := v) hb ht h1 h6 (by omega) hm
  rw [g1, Aa, g2, Aa] at h
  have := Bfw g4
  by_cases hl : e' ≠ 0
  ·rw [if_pos hl] at h; cases h; exact this
  ·rw [if_neg hl] at h; cases h; decide
end Go.Pl
set_option linter.unusedVariables false
set_option linter.unusedSimpArgs false
namespace Go.Pl
open Go Go.Lv
def shI (f c w r n : Int) : Bool := decide ((f = 1 ∨ f = 2) ∧ (1 ≤ c ∧ c ≤ 6) ∧ (w = 8 ∨ w = 16 ∨ w = 24) ∧ (1 ≤ r ∧ r ≤ 1048576) ∧ 1 ≤ n)
theorem Bk3 (f c w r n : Int) : Nu f c w r n = some (shI f c w r n) := by
 have e2 : Kv f c w r n = some (decide ((f = 1 ∨ f = 2) ∧ (1 ≤ c ∧ c ≤ 6) ∧ (1 ≤ r ∧ r ≤ 1048576) ∧ 1 ≤ n)) := by
  rw [Kv, Acg]
  congr 1
  rw [Bool.eq_iff_iff]
  simp only [Be, Bb, Aln, Bool.and_eq_true, Bool.or_eq_true, beq_iff_eq, decide_eq_true_eq]
  omega
 have g : ∀ k : Int, geq w k = decide (w = k) := fun k => by rw [Be, Bool.eq_iff_iff]; simp
 rw [Nu, Wh, e2, g, g, g, shI]
 by_cases h8 : w = 8
 ·subst h8; simp
 ·by_cases h16 : w = 16
  ·subst h16; simp
  ·by_cases h24 : w = 24
   ·subst h24; simp
   ·simp [h8, h16, h24]
theorem Bnk (f c w r n : Int) : Fb f c w r n = some (shI f c w r n) := by
 rw [Fb, shI]
 simp only [Be, Dt, Aln, Bool.and_eq_true, Bool.or_eq_true, beq_iff_eq, decide_eq_true_eq, Bool.false_and]
 split
 ·rename_i h
  congr 1
  rw [Bool.eq_iff_iff]
  simp only [Bool.and_eq_true, Bool.or_eq_true, beq_iff_eq, decide_eq_true_eq]
  omega
 ·rename_i h
  congr 1
  symm
  rw [decide_eq_false_iff_not]
  omega
structure HdI (f c w r n : Int) (F C W R N : Nat) : Prop where
 ef : f = F
 ec : c = C
 ew : w = W
 er : r = R
 en : n = N
 shape : shapeB F C W R N = true
 fit : fitB C R N = true
theorem Bil (f c w r n : Int) : (∃ F C W R N : Nat, HdI f c w r n F C W R N) ∨ (Ge f c w r n = some 8 ∧ Ep f c w r n = some ([], 8)) := by
 by_cases h : shI f c w r n = true
 ·have h' := h
  simp only [shI, decide_eq_true_eq] at h'
  obtain ⟨F, rfl⟩ := Int.eq_ofNat_of_zero_le (show 0 ≤ f by omega)
  obtain ⟨C, rfl⟩ := Int.eq_ofNat_of_zero_le (show 0 ≤ c by omega)
  obtain ⟨W, rfl⟩ := Int.eq_ofNat_of_zero_le (show 0 ≤ w by omega)
  obtain ⟨R, rfl⟩ := Int.eq_ofNat_of_zero_le (show 0 ≤ r by omega)
  obtain ⟨N, rfl⟩ := Int.eq_ofNat_of_zero_le (show 0 ≤ n by omega)
  have hs : shapeB F C W R N = true := by simp only [shapeB, decide_eq_true_eq]; omega
  by_cases hf : fitB C R N = true
  ·exact .inl ⟨F, C, W, R, N, rfl, rfl, rfl, rfl, rfl, hs, hf⟩
  ·have hf' : fitB C R N = false := by simpa using hf
   refine .inr ⟨?_, ?_⟩
   ·rw [Ge, Ao2, Aa, hs, if_neg (by simp), Avl hs, Aa, hf']; rfl
   ·rw [Ep, Wn, Amu, Aa, hs, if_neg (by simp), Arj hs, Aa, hf']; rfl
 ·have h' : shI f c w r n = false := by simpa using h
  refine .inr ⟨?_, ?_⟩
  ·rw [Ge, Bnk, Aa, h']; rfl
  ·rw [Ep, Wn, Bk3, Aa, h']; rfl
theorem HdI.check {f c w r n : Int} {F C W R N : Nat} (h : HdI f c w r n F C W R N) : Ge f c w r n = some 0 := by
 obtain ⟨rfl, rfl, rfl, rfl, rfl, hs, hf⟩ := h
 rw [Ge, Ao2, Aa, hs, if_neg (by simp), Avl hs, Aa, hf]; rfl
theorem HdI.Aze {f c w r n : Int} {F C W R N : Nat} (h : HdI f c w r n F C W R N) : Ep f c w r n = some (framesL (longN R) N, 0) := by
 obtain ⟨rfl, rfl, rfl, rfl, rfl, hs, hf⟩ := h
 exact Bdk hs hf
theorem HdI.num {f c w r n : Int} {F C W R N : Nat} (h : HdI f c w r n F C W R N) : (F = 1 ∨ F = 2) ∧ (1 ≤ C ∧ C ≤ 6) ∧ (W = 8 ∨ W = 16 ∨ W = 24) ∧ (1 ≤ R ∧ R ≤ 1048576) ∧ 1 ≤ N ∧ N ≤ 4000 / C ∧ N ≤ 4000 ∧ (N - 1) / longN R + 1 ≤ 1000 := by
 obtain ⟨rfl, rfl, rfl, rfl, rfl, hs, hf⟩ := h
 simp only [shapeB, decide_eq_true_eq] at hs
 simp only [fitB, decide_eq_true_eq] at hf
 have hd : 4000 / C ≤ 4000 := Nat.div_le_self _ _
 omega
theorem HdI.Bq5 {f c w r n : Int} {F C W R N : Nat} (h : HdI f c w r n F C W R N) : Dn f c w r n = some (framesL (longN R) N) := by
 have hn := h.num
 obtain ⟨rfl, rfl, rfl, rfl, rfl, hs, hf⟩ := h
 rw [Dn, Av9 (by omega) (by omega) (by omega)]; rfl
end Go.Pl
set_option linter.unusedVariables false
set_option linter.unusedSimpArgs false
namespace Go.Pl
open Go Go.Lv
section
variable {f c w r n : Nat} (h1 : shapeB f c w r n = true) (h2 : fitB c r n = true)
include h1 h2
theorem Ax7 (k : Nat) (hk : k ≤ (framesL (longN r) n).length) : ∀ (j i q : Nat), i + j = k → j < q → Gk (k : Int) (f : Int) (c : Int) (w : Int) (r : Int) (n : Int) (framesL (longN r) n) q (((framesL (longN r) n).take i).sum) (i : Int) = some (Alw c w (framesL (longN r) n) k)
 | 0, i, q + 1, hi, _ => by
  obtain ⟨hc, hw, hr, hn, _⟩ := Aqy h1
  obtain ⟨g1, g2, g3⟩ := Ak2 h1 h2
  have b := Aqs g1 i
  obtain rfl : i = k := by omega
  have hb : ((framesL (longN r) n).take i).sum.toNat * (c * wB (w : Int)) ≤ 4000 * (6 * 3) := Nat.mul_le_mul (by omega) (Nat.mul_le_mul hc.2 (Bf1 (w : Int)).2)
  rw [Gk, Nl, if_neg (by rw [Ae]; simp), Vs, Adj, Lh, Aa]
  simp only
  rw [Xb, Bqt hc.2 hw, Aa, Alw]
  have e : ((framesL (longN r) n).take i).sum = ((((framesL (longN r) n).take i).sum.toNat : Nat) : Int) := by omega
  rw [e, Hs (by rw [← Int.natCast_mul]; omega) (by rw [← Int.natCast_mul]; omega), ← Int.natCast_mul]; rfl
 | j + 1, i, q + 1, hi, hq => by
  obtain ⟨g1, g2, g3⟩ := Ak2 h1 h2
  have hK := Bac h2
  have hlt : i < (framesL (longN r) n).length := by omega
  have b1 := Aqs g1 i
  have b2 := Aqs g1 (i + 1)
  have e := Aon hlt
  have ih := Ax7 k hk j (i + 1) q (by omega) (by omega)
  rw [e] at ih
  rw [Gk, Nl, if_pos (by rw [Ae]; simp; omega), Dk hlt, Aa, Aa, Ag (by omega) (by omega), Ag (by omega) (by omega)]
  exact ih
theorem Bj8 (k : Nat) (hk : k ≤ (framesL (longN r) n).length) : Nd (f : Int) (c : Int) (w : Int) (r : Int) (n : Int) (k : Int) = some (Alw c w (framesL (longN r) n) k) := by
 have hK := Bac h2
 obtain ⟨g1, g2, g3⟩ := Ak2 h1 h2
 obtain ⟨hc, hw, hr, hn, _⟩ := Aqy h1
 have h := Ax7 h1 h2 k hk k 0 Bc (by omega) (by have := Ay; omega)
 rw [List.take_zero, List.sum_nil] at h
 rw [Nd, Vw, Dn, Av9 hr.2 hn g3, Aa, Aa]
 exact h
theorem Bec {i : Nat} (hlt : i < (framesL (longN r) n).length) : Af (Alw c w (framesL (longN r) n) i) (Cw (Bo (Bo ((framesL (longN r) n)[i]) (c : Int)) (w : Int)) 8) = Alw c w (framesL (longN r) n) (i + 1) := by
 obtain ⟨hc, hw, hr, hn, _⟩ := Aqy h1
 obtain ⟨g1, g2, g3⟩ := Ak2 h1 h2
 have b1 := Aqs g1 i
 have b2 := Aqs g1 (i + 1)
 have e := Aon hlt
 have h0 := g1 _ (List.getElem_mem hlt)
 have e2 : (framesL (longN r) n)[i] = (((framesL (longN r) n)[i].toNat : Nat) : Int) := by omega
 have hb : ((framesL (longN r) n).take (i + 1)).sum.toNat * (c * wB (w : Int)) ≤ 4000 * (6 * 3) := Nat.mul_le_mul (by omega) (Nat.mul_le_mul hc.2 (Bf1 (w : Int)).2)
 rw [e2, Brg (by omega) hc.2 hw, Alw, Alw]
 have e3 : ((framesL (longN r) n).take (i + 1)).sum.toNat = ((framesL (longN r) n).take i).sum.toNat + (framesL (longN r) n)[i].toNat := by omega
 rw [e3, Nat.add_mul] at hb ⊢
 rw [Ag (by omega) (by omega)]
 omega
theorem Axx (a : Nat) (ha : a ≤ (framesL (longN r) n).length) (o p : LB) (m : LI) (a' : Int) (N : LB) (u : Bool) (v : Int) : ∀ (j i q : Nat), i + j = a → j < q →
  Ms ((framesL (longN r) n).take a) o p (f : Int) (c : Int) (w : Int) (r : Int) (n : Int) m a' N u v q (Alw c w (framesL (longN r) n) i) (i : Int) = some (gle (Ac N) (Alw c w (framesL (longN r) n) a))
 | 0, i, q + 1, hi, _ => by
  obtain rfl : i = a := by omega
  rw [Ms, Xw, if_neg (by rw [Ae, Ac, List.length_take]; simp; omega), Aen, Alu]
 | j + 1, i, q + 1, hi, hq => by
  have hK := Bac h2
  have hlt : i < (framesL (longN r) n).length := by omega
  have hlt2 : i < ((framesL (longN r) n).take a).length := by rw [List.length_take]; omega
  have ih := Axx a ha o p m a' N u v j (i + 1) q (by omega) (by omega)
  rw [Ms, Xw, if_pos (by rw [Ae, Ac]; simp; omega), Dk hlt2, Aa, List.getElem_take, Bec h1 h2 hlt, Ag (by omega) (by omega)]
  exact ih
end
end Go.Pl
set_option linter.unusedVariables false
set_option linter.unusedSimpArgs false
namespace Go.Pl
open Go Go.Lv
theorem Atq {α : Type} (l : List α) : geq (Ac l) 0 = decide (l = []) := by
 cases l with
 | nil => rfl
 | cons x l => rw [Be, Ac, List.length_cons, decide_eq_false (by simp), beq_eq_false_iff_ne]; omega
theorem Bat {α : Type} (l : List α) : Ga (Ac l) 0 = decide (l ≠ []) := by
 cases l with
 | nil => rfl
 | cons x l => rw [Bb, Ac, List.length_cons, decide_eq_true (by simp)]; simp
inductive FitD (o : LB) (f c w r n : Int) (g : LI) (a : Int) (x : LB) : Prop
 | new : f = 0 → c = 0 → w = 0 → r = 0 → n = 0 → g = [] → a = 0 → x = [] → FitD o f c w r n g a x
 | head (F C W R N : Nat) : HdI f c w r n F C W R N → (o == ([] : LB)) = decide (F = 1) → g = [] → a = 0 → x = [] → FitD o f c w r n g a x
 | tab (F C W R N A : Nat) : HdI f c w r n F C W R N → (o == ([] : LB)) = decide (F = 1) → tabB g = true → g.length = (framesL (longN R) N).length → a = A → A ≤ g.length → FitD o f c w r n g a x
theorem Be3 (f c w r n : Int) (o : LB) : Vc f c w r n o = Ih f c w r n o := rfl
theorem Bft (o p : LB) (f c w r n : Int) (g : LI) (a : Int) (x : LB) (u : Bool) (v : Int) :
  (Wg o p f c w r n g a x u v = some false ∧ Lc o p f c w r n g a x u v = some false) ∨
  (Wg o p f c w r n g a x u v = some true ∧ Lc o p f c w r n g a x u v = Bp o p f c w r n g a x u v ∧ FitD o f c w r n g a x) := by
 rw [Wg, Aef, Lc, To]
 by_cases hz : f = 0 ∧ c = 0 ∧ w = 0 ∧ r = 0 ∧ n = 0
 ·obtain ⟨rfl, rfl, rfl, rfl, rfl⟩ := hz
  rw [if_pos (by decide), if_pos (by decide), Atq, Atq, Bat, Bat]
  by_cases h : g = [] ∧ a = 0 ∧ x = []
  ·obtain ⟨rfl, rfl, rfl⟩ := h
   exact .inr ⟨rfl, by rw [if_neg (by decide)], .new rfl rfl rfl rfl rfl rfl rfl rfl⟩
  ·refine .inl ⟨?_, ?_⟩
   ·congr 1
    rw [Bool.eq_false_iff]
    intro e
    simp only [Bool.and_eq_true, decide_eq_true_eq, Be, beq_iff_eq] at e
    exact h ⟨e.1.1, e.1.2, e.2⟩
   ·rw [if_pos]
    simp only [Bool.or_eq_true, decide_eq_true_eq, Au, bne_iff_ne]
    by_cases e1 : g = []
    ·by_cases e2 : a = 0
     ·exact .inr fun e3 => h ⟨e1, e2, e3⟩
     ·exact .inl (.inr e2)
    ·exact .inl (.inl e1)
 ·have hz2 : ¬ (((geq f 0) && ((geq c 0) && ((geq w 0) && ((geq r 0) && ((geq n 0) && true))))) = true) := by
   simp only [Bool.and_eq_true, Be, beq_iff_eq, and_true]
   exact hz
  rw [if_neg hz2, if_neg hz2]
  rcases Bil f c w r n with ⟨F, C, W, R, N, h⟩ | ⟨e1, e2⟩
  ·rw [h.Aze, h.check, Aa, Aa, Be3]
   simp only
   rw [if_neg (by decide), if_neg (by decide), Ih]
   have hf : geq f 1 = decide (F = 1) := by rw [h.ef, Be, Bool.eq_iff_iff]; simp; omega
   rw [hf]
   by_cases hp : (o == ([] : LB)) = decide (F = 1)
   ·rw [if_neg (by rw [hp]; simp), Aa, Aa, if_neg (by decide), if_neg (by decide), Aeu, Aek, Td, Tj, Atq, Atq, Bat]
    by_cases hg : g = []
    ·subst hg
     rw [if_pos (by simp), if_pos (by simp)]
     by_cases h' : a = 0 ∧ x = []
     ·obtain ⟨rfl, rfl⟩ := h'
      exact .inr ⟨rfl, by rw [if_neg (by decide)], .head F C W R N h hp rfl rfl rfl⟩
     ·refine .inl ⟨?_, ?_⟩
      ·congr 1
       rw [Bool.eq_false_iff]
       intro e
       simp only [Bool.and_eq_true, decide_eq_true_eq, Be, beq_iff_eq] at e
       exact h' e
      ·rw [if_pos]
       simp only [Bool.or_eq_true, decide_eq_true_eq, Au, bne_iff_ne]
       by_cases e2 : a = 0
       ·exact .inr fun e3 => h' ⟨e2, e3⟩
       ·exact .inl e2
    ·rw [if_neg (by simpa using hg), if_neg (by simpa using hg), Ami, Aoe, Aa, Aa]
     by_cases ht : tabB g = true
     ·rw [if_pos ht, h.Bq5]
      simp only [Aa]
      by_cases hl : g.length = (framesL (longN R) N).length ∧ 0 ≤ a ∧ a ≤ g.length
      ·obtain ⟨hl, ha0, ha1⟩ := hl
       obtain ⟨A, rfl⟩ := Int.eq_ofNat_of_zero_le ha0
       have hA : A ≤ (framesL (longN R) N).length := by omega
       rw [if_neg (by simp [Au, Ae, Bb, Ac]; omega), if_neg (by decide), if_neg (by simp [Au, Ae, Bb, Ac]; omega), Gd (by omega) (by omega), Aa, Aeh]
       have hh := h
       clear hf
       obtain ⟨rfl, rfl, rfl, rfl, rfl, hs, hf⟩ := hh
       have hlp := Axx hs hf A hA o p g (A : Int) x u v A 0 Bc (by omega) (by have := Ay; have := Bac hf; omega)
       have h0 : Alw C W (framesL (longN R) N) 0 = 0 := by rw [Alw, List.take_zero, List.sum_nil]; simp
       rw [h0, show ((0 : Nat) : Int) = 0 from rfl] at hlp
       rw [show ((A : Int)).toNat = A from rfl, hlp, Bj8 hs hf A hA, Aa]
       by_cases hx : (x.length : Int) ≤ Alw C W (framesL (longN R) N) A
       ·refine .inr ⟨?_, ?_, .tab F C W R N A h hp ht hl rfl (by omega)⟩
        ·rw [Aln, Ac, decide_eq_true hx]
        ·rw [if_neg (by rw [Bb, Ac]; simp; omega)]
       ·refine .inl ⟨?_, ?_⟩
        ·rw [Aln, Ac, decide_eq_false hx]
        ·rw [if_pos (by rw [Bb, Ac]; simp; omega)]
      ·refine .inl ⟨?_, ?_⟩
       ·rw [if_pos (by simp [Au, Ae, Bb, Ac]; omega)]
       ·rw [if_neg (by decide), if_pos (by simp [Au, Ae, Bb, Ac]; omega)]
     ·refine .inl ⟨?_, ?_⟩
      ·rw [if_neg ht, if_pos (by simp [Au])]
      ·rw [if_neg ht, if_pos (by decide), if_pos (by simp)]
   ·rw [if_pos (by simpa using hp), Aa, Aa, if_pos (by decide), if_pos (by decide)]
    exact .inl ⟨rfl, rfl⟩
  ·rw [e1, e2, Aa, Aa]
   simp only
   rw [if_pos (by decide), if_pos (by decide)]
   exact .inl ⟨rfl, rfl⟩
end Go.Pl
set_option linter.unusedVariables false
set_option linter.unusedSimpArgs false
namespace Go.Pl
open Go Go.Lv
theorem Blz (b : List UInt8) (n : Int) : 0 ≤ (Alo b n).2 := by
 unfold Alo
 repeat' split
 all_goals simp
theorem Bm6 (b : List UInt8) : 0 ≤ (Ah4 b).2 := by
 unfold Ah4 Atx
 repeat' split
 all_goals first | exact Blz _ _ | simp
theorem Bjm (b : List UInt8) : 0 ≤ (Nv b).2 := by
 unfold Nv
 repeat' split
 all_goals simp
theorem Bls (b : List UInt8) : 0 ≤ (Dx b).2 := by
 unfold Dx
 split
 ·exact Bm6 b
 ·exact Bjm b
theorem Ayi (b : List UInt8) : ∀ (j p : Nat), 0 ≤ (Cq b j p).2
 | 0, p => by simp [Cq]
 | j + 1, p => by
  rw [Cq]
  split
  ·simp
  ·split
   ·exact Bls _
   ·split
    ·simp
    ·split
     ·simp
     ·exact Ayi b j _
theorem Bjw (b : List UInt8) : 0 ≤ (Ki b).2 := by
 unfold Ki Bfo
 split
 ·simp
 ·exact Ayi b _ _
theorem Bj0 (b : List UInt8) : 0 ≤ (Lf b).2.2.2.2.2 := by
 unfold Lf
 repeat' split
 all_goals simp
theorem Bk2 (b : List UInt8) (n : Nat) : 0 ≤ (Np b n).2 := by
 unfold Np
 repeat' split
 all_goals simp
def ID3 : List UInt8 := [73, 68, 51]
def APX : List UInt8 := [65, 80, 69, 84, 65, 71, 69, 88]
def Ane (b s : List UInt8) : Bool := decide (b.length < s.length) && (b == s.take b.length)
theorem Axz (b s : List UInt8) : Kb b s = some (Ane b s) := by
 rw [Kb, Ane]
 by_cases h : b.length < s.length
 ·rw [if_pos (by rw [Ae, Ac, Ac]; simp; omega), Ac, Gd (by omega) (by omega), Aa, decide_eq_true h, Bool.true_and]; rfl
 ·rw [if_neg (by rw [Ae, Ac, Ac]; simp; omega), decide_eq_false h]; rfl
theorem Bkq (b s : List UInt8) (h : b.length < s.length) : Hb s b = some (Ane b s) := by
 rw [Hb, Et, if_pos (by rw [Dt, Ac, Ac]; simp; omega), Ac, Gd (by omega) (by omega), Aa, Aa, Ane, decide_eq_true h, Bool.true_and, Int.toNat_natCast]
 congr 1
 rw [Bool.eq_iff_iff, beq_iff_eq, beq_iff_eq]
 exact eq_comm
theorem Ayb {b s : List UInt8} (h : ¬ b.length < s.length) : Ane b s = false := by rw [Ane, decide_eq_false h]; rfl
theorem Bry (b : List UInt8) : Wi b = some (Ane b ID3 || Ane b APX) := by
 obtain ⟨q, hq⟩ : ∃ q, Bc = q + 3 := ⟨Bc - 3, by have := Ay; omega⟩
 have l3 : Hp b (q + 1) 2 = some false := by rw [Hp, Sa, if_neg (by decide)]; rfl
 have l2 : Hp b (q + 2) 1 = some (Ane b APX) := by
  rw [Hp, Sa, if_pos (by decide), show Aj ([([73, 68, 51] : LB), ([65, 80, 69, 84, 65, 71, 69, 88] : LB)] : List LB) 1 = some APX from rfl, Aa, show Af (1 : Int) 1 = 2 from rfl]
  by_cases h : b.length < APX.length
  ·rw [if_pos (by rw [Ae, Ac, Ac]; simp; omega), Bkq b APX h, Aa]
   by_cases hb : Ane b APX = true
   ·rw [if_pos hb, hb]
   ·rw [if_neg hb, l3]; simpa using hb
  ·rw [if_neg (by rw [Ae, Ac, Ac]; simp; omega), l3, Ayb h]
 rw [Wi, Aeg, Aew, hq, Hp, Sa, if_pos (by decide), show Aj ([([73, 68, 51] : LB), ([65, 80, 69, 84, 65, 71, 69, 88] : LB)] : List LB) 0 = some ID3 from rfl, Aa, show Af (0 : Int) 1 = 1 from rfl]
 by_cases h : b.length < ID3.length
 ·rw [if_pos (by rw [Ae, Ac, Ac]; simp; omega), Bkq b ID3 h, Aa]
  by_cases hb : Ane b ID3 = true
  ·rw [if_pos hb, hb]; rfl
  ·rw [if_neg hb, l2, Bool.eq_false_iff.2 hb]; rfl
 ·rw [if_neg (by rw [Ae, Ac, Ac]; simp; omega), l2, Ayb h]; rfl
def stS (b : List UInt8) : Int × Int × Int × Int × Int × Int × Int :=
 if (Ki b).2 = 24 then (0, 0, 0, 0, 0, 0, -1) else if (Ki b).2 ≠ 0 then (0, 0, 0, 0, 0, 0, (Ki b).2) else
 if (Ane (hdr b) ID3 || Ane (hdr b) APX) = true then (0, 0, 0, 0, 0, 0, -1) else
 if (Lf (hdr b)).2.2.2.2.2 = 24 then (0, 0, 0, 0, 0, 0, -1) else ((Ki b).1 + 22, (Lf (hdr b)).1, (Lf (hdr b)).2.1, (Lf (hdr b)).2.2.1, (Lf (hdr b)).2.2.2.1, (Lf (hdr b)).2.2.2.2.1, (Lf (hdr b)).2.2.2.2.2)
theorem Bfd (b : List UInt8) (hb : b.length ≤ 100000) : Iw b = some (stS b) := by
 rw [Iw, Pj, Azj b (by omega), Aa, stS]
 have hok := Ayn (b := b)
 simp only
 by_cases h1 : (Ki b).2 = 24
 ·rw [if_pos (by rw [Be]; simpa using h1), if_pos h1]
 rw [if_neg (by rw [Be]; simpa using h1), if_neg h1]
 by_cases h2 : (Ki b).2 ≠ 0
 ·rw [if_pos (by rw [Au]; simpa using h2), if_pos h2]
 have h0 : (Ki b).2 = 0 := by simpa using h2
 obtain ⟨k1, k2, k3⟩ := hok h0
 rw [if_neg (by rw [Au, h0]; simp), if_neg h2, Jm (by omega) (by omega), Aa, Axz, Aa, show b.drop (Ki b).1.toNat = hdr b from rfl, show ([73, 68, 51] : LB) = ID3 from rfl, show ([65, 80, 69, 84, 65, 71, 69, 88] : LB) = APX from rfl]
 by_cases h3 : Ane (hdr b) ID3 = true
 ·rw [if_pos h3, h3, Bool.true_or, if_pos rfl]
 rw [if_neg h3, Axz, Aa, Bool.eq_false_iff.2 h3, Bool.false_or]
 by_cases h4 : Ane (hdr b) APX = true
 ·rw [if_pos h4, if_pos h4]
 have hl : (hdr b).length ≤ b.length := by rw [hdr, List.length_drop]; omega
 rw [if_neg h4, if_neg h4, Pu, Yu, Bka _ (by omega), Aa]
 simp only
 by_cases h5 : (Lf (hdr b)).2.2.2.2.2 = 24
 ·rw [if_pos (by rw [Be]; simpa using h5), if_pos h5]
 ·rw [if_neg (by rw [Be]; simpa using h5), if_neg h5, Ag (by omega) (by omega)]
end Go.Pl
set_option linter.unusedVariables false
set_option linter.unusedSimpArgs false
namespace Go.Pl
open Go Go.Lv
def Be0 (g a : LB) (k p o u v : Int) (f : LI) (b : Int) (h : LB) (m : Bool) (n : Int) : Option Int :=
if (geq k 0) then
(Qm a).bind fun (al, ba) =>
if (geq ba 24) then
Di true 0
else
if (Cm ba 0) then
(Aq ba).bind fun (bx, bz) =>
Di bx bz
else
(Bs a al (Ac a)).bind fun da =>
(Wi da).bind fun an =>
if an then
Di true 0
else
(Bs a al (Ac a)).bind fun db =>
(Yy db).bind fun (ae, af, aa, ag, ab, bb) =>
if (geq bb 24) then
Di true 0
else
if (Cm bb 0) then
(Aq bb).bind fun (dc, dd) =>
Di dc dd
else
(
(Bs a (Af al 22) (Ac a)).bind fun ak =>
(
Uq g ak ae af aa ag ab b m n f h))
else
if (geq (Ac f) 0) then
if (geq k 2) then
if (Dg (Ac a) 8) then
Gy true 0
else
Uk g a k p o u v b m n f h
else
Hf g a k p o u v b m n f h 0
else
if (Dg b (Ac f)) then
(Aj f b).bind fun _ =>
(Aj f b).bind fun w =>
if (Dg (Ac a) w) then
Fe true 0
else
(Af0 g).bind fun (ap, am) =>
if (Cm am 0) then
(Aq am).bind fun (de, df) =>
Fe de df
else
(Ep k p o u v).bind fun (ad, dg) =>
if ((Cm dg 0) || (Sd b (Ac ad))) then
(Aq 8).bind fun (dh, di) =>
Fe dh di
else
Uc w g a k p o u v b m n ap ad f h
else
if (Ga (Ac a) 4000) then
(Aq 38).bind fun (dj, bf) =>
Bg ((dj == true) && ((geq bf 0) && true))
else
Us
theorem Ao3 (d : Bool) (e : Int) : Di d e = Bg (d && geq e 0) := by
 rw [Di, Abm]; cases d <;> simp
theorem Aw8 (d : Bool) (e : Int) : Gy d e = Bg (d && geq e 0) := by
 rw [Gy, Abr]; cases d <;> simp
theorem Beq (d : Bool) (e : Int) : Fe d e = Bg (d && geq e 0) := by
 rw [Fe, Aat]; cases d <;> simp
theorem rp4 {o p : LB} {f c w r n : Int} {g : LI} {a : Int} {x : LB} {u : Bool} {v : Int} {t1 t2 : LB} {t3 t4 t5 t6 t7 : Int} {t8 : LI} {t9 : Int} {t10 : LB} {t11 : Bool} {t12 e : Int}
  (h : Cb o p f c w r n g a x u v = some (t1, t2, t3, t4, t5, t6, t7, t8, t9, t10, t11, t12, e)) : Bp o p f c w r n g a x u v = some (geq e (-1)) := by
 rw [Bp, Ab6, h, Aa]
theorem Azx {e : Int} (h : 0 ≤ e) : geq e (-1) = false := by rw [Be, beq_eq_false_iff_ne]; omega
theorem Bi1 (o p : LB) (c w r n : Int) (g : LI) (a : Int) (x : LB) (u : Bool) (v : Int) (hp : p.length ≤ 100000) :
  ∃ B : Bool, Be0 o p 0 c w r n g a x u v = Bg B ∧ Bp o p 0 c w r n g a x u v = some B := by
 have hT : Cb o p 0 c w r n g a x u v = Cb o p 0 c w r n g a x u v := rfl
 conv at hT => rhs; rw [Cb, Gp, if_pos (by decide), Bfd p hp, Aa, stS]
 have hfn := Bjw p
 have hrn := Bj0 (hdr p)
 rw [Be0, if_pos (by decide), Aw2 p (by omega), Aa]
 have hok := Ayn (b := p)
 simp only at hT ⊢
 by_cases h1 : (Ki p).2 = 24
 ·rw [if_pos h1] at hT
  simp only at hT
  rw [if_pos (by decide)] at hT
  rw [if_pos (by rw [Be]; simpa using h1), Ao3]
  exact ⟨_, rfl, rp4 hT⟩
 rw [if_neg h1] at hT
 rw [if_neg (by rw [Be]; simpa using h1)]
 by_cases h2 : (Ki p).2 ≠ 0
 ·rw [if_pos h2] at hT
  simp only at hT
  rw [if_pos (by rw [Au]; simpa using h2)] at hT
  rw [if_pos (by rw [Au]; simpa using h2), Aq, Aa]
  simp only
  rw [Ao3]
  exact ⟨_, rfl, (rp4 hT).trans (by rw [Azx hfn]; rfl)⟩
 have h0 : (Ki p).2 = 0 := by simpa using h2
 obtain ⟨k1, k2, k3⟩ := hok h0
 have hl : (hdr p).length = p.length - (Ki p).1.toNat := by rw [hdr, List.length_drop]
 rw [if_neg h2] at hT
 rw [if_neg (by rw [Au, h0]; simp), Jm (by omega) (by omega), Aa, Aa, show p.drop (Ki p).1.toNat = hdr p from rfl, Bry, Aa]
 by_cases h3 : (Ane (hdr p) ID3 || Ane (hdr p) APX) = true
 ·rw [if_pos h3] at hT ⊢
  simp only at hT
  rw [if_pos (by decide)] at hT
  rw [Ao3]
  exact ⟨_, rfl, rp4 hT⟩
 rw [if_neg h3] at hT ⊢
 rw [Bjo _ (by omega), Aa]
 by_cases h5 : (Lf (hdr p)).2.2.2.2.2 = 24
 ·rw [if_pos h5] at hT
  simp only at hT
  rw [if_pos (by decide)] at hT
  rw [if_pos (by rw [Be]; simpa using h5), Ao3]
  exact ⟨_, rfl, rp4 hT⟩
 rw [if_neg h5] at hT
 rw [if_neg (by rw [Be]; simpa using h5)]
 simp only at hT
 by_cases h6 : (Lf (hdr p)).2.2.2.2.2 ≠ 0
 ·rw [if_pos (by rw [Au]; simpa using h6)] at hT ⊢
  rw [Aq, Aa]
  simp only
  rw [Ao3]
  exact ⟨_, rfl, (rp4 hT).trans (by rw [Azx hrn]; rfl)⟩
 have h7 : (Lf (hdr p)).2.2.2.2.2 = 0 := by simpa using h6
 have h22 := (Bm1 h7).2.1
 rw [if_neg (by rw [Au, h7]; simp), Jm (by omega) (by omega), Aa, Vo, Aed, Ih] at hT
 rw [if_neg (by rw [Au, h7]; simp), Ag (by omega) (by omega), Jm (by omega) (by omega), Aa, Uq, Aay, Vc]
 simp only
 by_cases h8 : ((o == ([] : LB)) != geq (Lf (hdr p)).1 1) = true
 ·rw [if_pos h8] at hT ⊢
  rw [Aa] at hT ⊢
  rw [Aq, Aa]
  simp only
  rw [Ao3]
  exact ⟨_, rfl, rp4 hT⟩
 ·rw [if_neg h8] at hT ⊢
  rw [Aa] at hT ⊢
  rw [Aq, Aa]
  simp only
  rw [Ao3]
  exact ⟨_, rfl, rp4 hT⟩
end Go.Pl
set_option linter.unusedVariables false
set_option linter.unusedSimpArgs false
namespace Go.Pl
open Go Go.Lv
section
variable {f c w r n : Int} {F C W R N : Nat} (hd : HdI f c w r n F C W R N)
include hd
theorem HdI.ne0 : ¬ (geq f 0 = true) := by
 have := hd.num
 rw [Be, beq_iff_eq, hd.ef]; omega
theorem Brw (o p : LB) (hp : p.length ≤ 100000) (A : Nat) (hA : A ≤ p.length) (a : Int) (x : LB) (u : Bool) (v : Int) :
  (Hf o p f c w r n a u v [] x (A : Int) = Bg (decide ((Np (p.drop A) (framesL (longN R) N).length).2 = 24))) ∧
  He p f c w r n (A : Int) = some (if (Np (p.drop A) (framesL (longN R) N).length).2 = 24 then (0, [], -1) else ((A : Int) + (4 * ((Np (p.drop A) (framesL (longN R) N).length).1.length : Int) + 4), (Np (p.drop A) (framesL (longN R) N).length).1, (Np (p.drop A) (framesL (longN R) N).length).2)) ∧
  ((Np (p.drop A) (framesL (longN R) N).length).2 = 0 → (A : Int) + (4 * ((Np (p.drop A) (framesL (longN R) N).length).1.length : Int) + 4) ≤ p.length) := by
 have hs := Bja (p.drop A) (framesL (longN R) N).length (by rw [List.length_drop]; omega)
 have hr := Bjz (p.drop A) (framesL (longN R) N).length (by rw [List.length_drop]; omega)
 have hok := Bmw (b := p.drop A) (n := (framesL (longN R) N).length)
 have hlen : (Np (p.drop A) (framesL (longN R) N).length).1.length ≤ 1000 := by
  unfold Np
  repeat' split
  all_goals simp [Af8]
  all_goals omega
 have hfit : (Np (p.drop A) (framesL (longN R) N).length).2 = 0 → (A : Int) + (4 * ((Np (p.drop A) (framesL (longN R) N).length).1.length : Int) + 4) ≤ p.length := by
  intro h0
  obtain ⟨k1, k2, k3, k4, _⟩ := hok h0
  rw [k1]
  simp only [Af8]
  rw [List.length_drop] at k4
  omega
 refine ⟨?_, ?_, hfit⟩
 ·rw [Hf, Abl, hd.Aze, Aa]
  simp only
  rw [if_neg (by decide), Jm (by omega) (by omega), Aa, Int.toNat_natCast, Ac, hs, Aa]
  generalize Np (p.drop A) (framesL (longN R) N).length = z at *
  obtain ⟨z1, z2⟩ := z
  simp only at *
  by_cases h1 : z2 = 24
  ·rw [if_pos (by rw [Be]; simpa using h1), Aw8, decide_eq_true h1]; rfl
  rw [if_neg (by rw [Be]; simpa using h1), decide_eq_false h1]
  by_cases h2 : z2 ≠ 0
  ·rw [if_pos (by rw [Au]; simpa using h2), Aq, Aa]
   simp only
   rw [Aw8]; rfl
  ·have h0 : z2 = 0 := by simpa using h2
   have := hfit h0
   rw [if_neg (by rw [Au, h0]; simp), Ac, Bk9 A z1.length (by omega) (by omega), Jm (by omega) (by omega), Aa, Aw8]; rfl
 ·rw [He, Rs, Jm (by omega) (by omega), Aa, hd.Bq5, Aa, Ac, Int.toNat_natCast, hr, Aa]
  generalize Np (p.drop A) (framesL (longN R) N).length = z at *
  obtain ⟨z1, z2⟩ := z
  simp only at *
  rw [Rr, Aa7]
  by_cases h1 : z2 = 24
  ·rw [if_pos (by rw [Be]; simpa using h1), if_pos h1]
  ·rw [if_neg (by rw [Be]; simpa using h1), if_neg h1, Ac, Bk9 A z1.length (by omega) (by omega)]
   congr 2
theorem Bpb (o p : LB) (ho : o.length ≤ 64) (hp : p.length ≤ 100000) (a : Int) (x : LB) (u : Bool) (v : Int) :
  ∃ B : Bool, Be0 o p f c w r n [] a x u v = Bg B ∧ Bp o p f c w r n [] a x u v = some B := by
 have hT : Cb o p f c w r n [] a x u v = Cb o p f c w r n [] a x u v := rfl
 conv at hT => rhs; rw [Cb, Gp, if_neg hd.ne0, Nk, Iz, if_pos (by decide), Pb, Rp]
 rw [Be0, if_neg hd.ne0, if_pos (by decide)]
 have fin : ∀ A : Nat, A ≤ p.length → Cb o p f c w r n [] a x u v = (He p f c w r n (A : Int)).bind (fun (ag, ak, w1) =>
   if (Cm w1 0) then some (o, p, f, c, w, r, n, [], a, x, u, v, w1) else (Bs p ag (Ac p)).bind fun al => some (o, al, f, c, w, r, n, ak, a, x, u, v, 0)) →
   ∃ B : Bool, Hf o p f c w r n a u v [] x (A : Int) = Bg B ∧ Bp o p f c w r n [] a x u v = some B := by
  intro A hA hT
  obtain ⟨t1, t2, t3⟩ := Brw hd o p hp A hA a x u v
  have hnn := Bk2 (p.drop A) (framesL (longN R) N).length
  rw [t2, Aa] at hT
  rw [t1]
  generalize Np (p.drop A) (framesL (longN R) N).length = z at *
  obtain ⟨z1, z2⟩ := z
  simp only at *
  by_cases h1 : z2 = 24
  ·rw [if_pos h1] at hT
   simp only at hT
   rw [if_pos (by decide)] at hT
   exact ⟨_, rfl, (rp4 hT).trans (by rw [decide_eq_true h1]; rfl)⟩
  rw [if_neg h1] at hT
  simp only at hT
  by_cases h2 : z2 ≠ 0
  ·rw [if_pos (by rw [Au]; simpa using h2)] at hT
   exact ⟨_, rfl, (rp4 hT).trans (by rw [decide_eq_false h1, Azx hnn])⟩
  ·have h0 : z2 = 0 := by simpa using h2
   have := t3 h0
   rw [if_neg (by rw [Au, h0]; simp), Jm (by omega) (by omega), Aa] at hT
   exact ⟨_, rfl, (rp4 hT).trans (by rw [decide_eq_false h1]; rfl)⟩
 by_cases h2 : geq f 2 = true
 ·rw [if_pos h2] at hT ⊢
  by_cases h8 : p.length < 8
  ·rw [if_pos (by rw [Ae, Ac]; simp; omega)] at hT ⊢
   rw [Aa] at hT
   simp only at hT
   rw [if_pos (by decide)] at hT
   rw [Aw8]
   exact ⟨_, rfl, rp4 hT⟩
  ·rw [if_neg (by rw [Ae, Ac]; simp; omega)] at hT ⊢
   have h8' : (p.take 8).length = 8 := by rw [List.length_take]; omega
   rw [Gd (by omega) (by omega), Aa, Bhu o ho, Aa] at hT
   rw [Uk, Aa8, Gd (by omega) (by omega), Aa, show (8 : Int).toNat = 8 from rfl, Bkd h8' ho, Aa]
   rw [show (8 : Int).toNat = 8 from rfl] at hT
   simp only
   rw [Aar, Aa4, if_neg (by decide)]
   by_cases he : (p.take 8 == leB (Adh o).toNat 8) = true
   ·rw [if_neg (by rw [bne, he]; decide)] at hT
    rw [if_neg (by rw [he]; decide)]
    exact fin 8 (by omega) hT
   ·have he' : (p.take 8 == leB (Adh o).toNat 8) = false := by simpa using he
    rw [if_pos (by rw [bne, he']; decide), Aa] at hT
    simp only at hT
    rw [if_pos (by decide)] at hT
    rw [if_pos (by rw [he']; decide), Aq, Aa]
    simp only
    rw [Aw8]
    exact ⟨_, rfl, rp4 hT⟩
 ·rw [if_neg h2] at hT ⊢
  exact fin 0 (by omega) hT
end
end Go.Pl
set_option linter.unusedVariables false
set_option linter.unusedSimpArgs false
namespace Go.Pl
open Go Go.Lv
theorem Bjt {f c w r n : Int} {F C W R N : Nat} (hd : HdI f c w r n F C W R N) (o p : LB) (ho : o.length ≤ 64) (hp : p.length ≤ 100000) (g : LI) (hg : tabB g = true) (hl : g.length = (framesL (longN R) N).length) (A : Nat) (hA : A ≤ g.length) (x : LB) (hx : x.length ≤ 100000) (u : Bool) (v : Int) :
  ∃ B : Bool, Be0 o p f c w r n g (A : Int) x u v = Bg B ∧ Bp o p f c w r n g (A : Int) x u v = some B := by
 have hc := hd.ec
 subst hc
 have hg' := hg
 rw [tabB, Bool.and_eq_true, decide_eq_true_eq, Atf g 100000 (by omega)] at hg'
 obtain ⟨⟨g1, g2⟩, g5, g6⟩ := hg'
 have hT : Cb o p f (C : Int) w r n g (A : Int) x u v = Cb o p f (C : Int) w r n g (A : Int) x u v := rfl
 conv at hT => rhs; rw [Cb, Gp, if_neg hd.ne0, Nk, Iz, if_neg (by rw [Be, Ac]; simp; intro e; subst e; simp at g1)]
 rw [Be0, if_neg hd.ne0, if_neg (by rw [Be, Ac]; simp; intro e; subst e; simp at g1)]
 by_cases hA2 : A = g.length
 ·subst hA2
  rw [if_pos (by rw [Be, Ac]; simp)] at hT
  rw [if_neg (by rw [Ae, Ac]; simp)]
  by_cases h4 : 4000 < p.length
  ·rw [if_pos (by rw [Bb, Ac]; simp; omega)] at hT ⊢
   rw [Aq, Aa]
   simp only
   exact ⟨_, rfl, rp4 hT⟩
  ·rw [if_neg (by rw [Bb, Ac]; simp; omega)] at hT ⊢
   rw [Us, Aaz]
   exact ⟨_, rfl, rp4 hT⟩
 ·have hlt : A < g.length := by omega
  have h5 := g5 g[A] (List.getElem_mem hlt)
  have hsum := Bd1 g5 g[A] (List.getElem_mem hlt)
  rw [if_neg (by rw [Be, Ac]; simp; omega), Pc, Rf, Dk hlt, Aa] at hT
  rw [if_pos (by rw [Ae, Ac]; simp; omega), Dk hlt, Aa, Aa]
  by_cases hw : (p.length : Int) < g[A]
  ·rw [if_pos (by rw [Ae, Ac]; simpa using hw)] at hT ⊢
   rw [Aa] at hT
   simp only at hT
   rw [if_pos (by decide)] at hT
   rw [Beq]
   exact ⟨_, rfl, rp4 hT⟩
  rw [if_neg (by rw [Ae, Ac]; simpa using hw)] at hT ⊢
  have hnum := hd.num
  have hlt2 : A < (framesL (longN R) N).length := by omega
  obtain ⟨m, hm, m1, m2⟩ := Avj (Ajc R) hnum.2.2.2.2.1 (List.getElem_mem hlt2)
  have hb : Du w := by rw [hd.ew]; unfold Du; omega
  obtain ⟨xs, e, d1, d2, d3, d4⟩ := Bdl (bits := w) (ch := C) (n := m) (t := Apo o) (p.take g[A].toNat) hb (Awr o) hnum.2.1.1 hnum.2.1.2 m1 (by omega)
  have hnn := Bia hb (Awr o) hnum.2.1.1 hnum.2.1.2 m1 (by omega) d2
  rw [Bje o ho, Aa]
  simp only
  rw [if_neg (by decide), hd.Aze, Aa]
  simp only
  rw [if_neg (by simp [Au, Dt, Ac]; omega), Uc, Aam, Dk hlt2, Aa, Gd (by omega) (by omega), Aa, Aa, Aiy, Aa]
  simp only
  rw [hm, d1, Aa]
  simp only
  rw [Bmi o ho, Aa] at hT
  simp only at hT
  rw [Gd (by omega) (by omega), Aa, Lh, Aa] at hT
  simp only at hT
  rw [hd.Bq5, Aa, Dk hlt2, Aa, Aa, hm] at hT
  rw [d2, Aa] at hT
  simp only at hT
  rw [Rl, Aal] at hT
  rw [Aa2, Uf]
  by_cases he : e ≠ 0
  ·rw [if_pos (by rw [Au]; simpa using he)] at hT ⊢
   rw [Aa] at hT
   simp only at hT
   rw [if_pos (by rw [Au]; simpa using he)] at hT
   rw [Aq, Aa]
   simp only
   rw [Beq]
   exact ⟨_, rfl, (rp4 hT).trans (by rw [Azx hnn]; rfl)⟩
  ·have he0 : e = 0 := by simpa using he
   obtain ⟨k1, k2, k3⟩ := d3 he0
   have hbl := Ak3 w xs
   rw [if_neg (by rw [Au, he0]; simp)] at hT ⊢
   rw [Bis hb k2 k1, Aa, Aa] at hT
   simp only at hT
   rw [if_neg (by decide), Fc (by simp; omega), Aa, List.nil_append, Fc (by omega), Aa, Aa, Jm (by omega) (by omega), Aa] at hT
   rw [Bee hb k2 k1, Aa]
   simp only
   rw [if_neg (by decide), Fc (by omega), Aa, Jm (by omega) (by omega), Aa, Beq]
   exact ⟨_, rfl, rp4 hT⟩
end Go.Pl
set_option linter.unusedVariables false
set_option linter.unusedSimpArgs false
namespace Go.Pl
open Go Go.Lv
theorem Bbb (a : LI) (b : Int) (ha : a.length ≤ 100) : ∀ (j i q : Nat), i + j = a.length → j < q → ∃ r, Bj a b q (i : Int) = some r ∧ Sd r 0 = (a.drop i).any fun y => b == y
 | 0, i, q + 1, hi, _ => by
  refine ⟨-1, ?_, ?_⟩
  ·rw [Bj, Dj, if_neg (by rw [Ae, Ac]; simp; omega)]; rfl
  ·rw [show i = a.length by omega, List.drop_length]; rfl
 | j + 1, i, q + 1, hi, hq => by
  have hlt : i < a.length := by omega
  obtain ⟨r, h1, h2⟩ := Bbb a b ha j (i + 1) q (by omega) (by omega)
  rw [Bj, Dj, if_pos (by rw [Ae, Ac]; simp; omega), Dk hlt, Aa, drop_cons hlt, List.any_cons]
  by_cases h : b = a[i]
  ·rw [if_pos (by rw [Be]; simpa using h)]
   refine ⟨_, rfl, ?_⟩
   rw [Dt, decide_eq_true (by omega), h]; simp
  ·rw [if_neg (by rw [Be]; simpa using h), Ag (by omega) (by omega)]
   refine ⟨r, h1, ?_⟩
   rw [h2, beq_eq_false_iff_ne.2 h, Bool.false_or]
theorem Bm4 (v : Int) : ∃ B : Bool, Oe v = some B ∧ Ng v = some B := by
 obtain ⟨r, h1, h2⟩ := Bbb [4, 12, 16, 22, 24, 26, 38] v (by decide) 7 0 Bc rfl (by have := Ay; omega)
 refine ⟨_, ?_, rfl⟩
 rw [Oe, Fw, Gz, Fv, Fz]
 have h1' : Bj [4, 12, 16, 22, 24, 26, 38] v Bc 0 = some r := h1
 rw [h1', Aa, Aa, h2]
 simp only [List.drop_zero, List.any_cons, List.any_nil, Bool.or_false, Be, Bool.or_assoc]
theorem Api (B : Bool) : Bg B = some (if B = true then 0 else 8) := by
 rw [Bg, Ah3]; cases B <;> rfl
theorem Boq (a b : LB) (f g h k m : Int) (n : LI) (o : Int) (p : LB) (u : Bool) (v : Int) (hb : b.length ≤ 1000000) (hn : n.length ≤ 1000000) (hp : p.length ≤ 1000000) :
  Abp a b f g h k m n o p u v = some (a, b, f, g, h, k, m, n, o, p, u, v) := by
 rw [Abp, Vm, Fc (by simp; omega), Aa, Aa, Vm, Fc (by simp; omega), Aa, Aa, Iy, Fc (by simp; omega), Aa, Aa]
 rfl
theorem Bkx (o p : LB) (f c w r n : Int) (g : LI) (a : Int) (x : LB) (u : Bool) (v : Int) (hp : p.length ≤ 100000) (hg : g.length ≤ 100000) (hx : x.length ≤ 100000) :
  ∃ E, Ac2 o p f c w r n g a x u v = some E ∧ Qx o p f c w r n g a x u v = some E := by
 rw [Ac2, Wm, Qx]
 by_cases ho : 64 < o.length
 ·rw [if_pos (by rw [Bb, Ac]; simp; omega), if_pos (by rw [Bb, Ac]; simp; omega)]
  exact ⟨8, rfl, rfl⟩
 have hO : ¬ (Ga (Ac o) 64 = true) := by rw [Bb, Ac]; simp; omega
 rw [if_neg hO, if_neg hO]
 by_cases hw : (geq v 0 && !u) = true
 ·rw [if_pos hw, if_pos hw, Boq o p f c w r n g a x u v (by omega) (by omega) (by omega), Aa]
  simp only
  rcases Bft o p f c w r n g a x u v with ⟨e1, e2⟩ | ⟨e1, e2, hd⟩
  ·rw [e1, e2, Aa, Aa, if_neg (by decide), if_pos (by decide), Api]
   exact ⟨8, rfl, rfl⟩
  ·rw [e1, e2, Aa, if_pos rfl]
   have key : ∃ B : Bool, Be0 o p f c w r n g a x u v = Bg B ∧ Bp o p f c w r n g a x u v = some B := by
    cases hd with
    | new e1 e2 e3 e4 e5 e6 e7 e8 => subst e1; exact Bi1 o p c w r n g a x u v hp
    | head F C W R N h hpw e6 e7 e8 => subst e6; exact Bpb h o p (by omega) hp a x u v
    | tab F C W R N A h hpw ht hl ea hA => subst ea; exact Bjt h o p (by omega) hp g ht hl A hA x hx u v
   obtain ⟨B, k1, k2⟩ := key
   rw [k2, Aa]
   refine ⟨if B = true then 0 else 8, k1.trans (Api B), ?_⟩
   cases B <;> rfl
 ·rw [if_neg hw, if_neg hw]
  by_cases hl : (geq (Ac p) 0 && geq (Ac g) 0) = true
  ·rw [if_pos hl, if_pos hl]
   generalize (geq f 0 && (geq c 0 && (geq w 0 && (geq r 0 && (geq n 0 && true))))) = z
   by_cases hz : ((z && geq a 0) && gle (Ac x) 12000) = true
   ·rw [if_pos hz]
    simp only [Bool.and_eq_true, Aln, Ac, decide_eq_true_eq] at hz
    obtain ⟨⟨z1, z2⟩, z3⟩ := hz
    have hN : ¬ ((!(z && geq a 0) || Ga (Ac x) 12000) = true) := by rw [z1, z2, Bb, Ac]; simp; omega
    rw [if_neg hN]
    by_cases hv : v = 0
    ·have v1 : geq v 0 = true := by rw [Be]; simpa using hv
     have v2 : ¬ (Cm v 0 = true) := by rw [Au]; simpa using hv
     rw [if_pos v1, if_neg v2, Api]
     exact ⟨0, rfl, rfl⟩
    ·have v1 : ¬ (geq v 0 = true) := by rw [Be]; simpa using hv
     have v2 : Cm v 0 = true := by rw [Au]; simpa using hv
     rw [if_neg v1, if_pos v2]
     obtain ⟨B, k1, k2⟩ := Bm4 v
     rw [k1, k2, Aa, Aa, Api, Api]
     cases u
     ·refine ⟨if B = true then 0 else 8, by simp, ?_⟩
      cases B <;> rfl
     ·exact ⟨8, rfl, rfl⟩
   ·rw [if_neg hz, if_pos, Api]
    ·exact ⟨8, rfl, rfl⟩
    ·simp only [Bool.and_eq_true, Aln, Ac, decide_eq_true_eq] at hz
     simp only [Bool.or_eq_true, Bool.not_eq_true', Bb, Ac, decide_eq_true_eq]
     by_cases hz2 : (z && geq a 0) = true
     ·rw [Bool.and_eq_true] at hz2
      exact .inr (by have hq : ¬ ((x.length : Int) ≤ 12000) := fun h => hz ⟨hz2, h⟩; omega)
     ·exact .inl (by simpa using hz2)
  ·rw [if_neg hl, if_neg hl, if_neg (by simp), if_pos (by simp), Api]
   exact ⟨8, rfl, rfl⟩
theorem Beb : Lm [] [] = some true := by
 obtain ⟨q, hq⟩ : ∃ q, Bc = q + 1 := ⟨Bc - 1, by have := Ay; omega⟩
 rw [Lm, Ns, if_neg (by decide), Og, hq, It, Ny, if_neg (by decide)]; rfl
theorem Avw (o : LB) : Ue o [] 0 0 0 0 0 [] 0 [] false 0 o [] 0 0 0 0 0 [] 0 [] false 0 = some true := by
 rw [Ue, if_pos (by simp [Be]), Beb, Aa]; rfl
theorem law_PushdecChecks (a b : LB) (f g h k m : Int) (n : LI) (o : Int) (p : LB) (u : Bool) (v : Int) (w : LB) : Kw a b f g h k m n o p u v w = some true := by
 rw [Kw]
 have hG : ∃ B : Bool, Rq a b f g h k m n o p u v = some B ∧ (B = false → b.length ≤ 5000 ∧ n.length ≤ 1010 ∧ p.length ≤ 12100) := by
  rw [Rq]
  split
  ·exact ⟨_, rfl, fun e => by simp at e⟩
  ·rename_i hc
   refine ⟨_, rfl, fun e => ?_⟩
   simp only [Bool.or_eq_true, Bb, Ac, decide_eq_true_eq, not_or] at hc
   simp only [Bool.or_eq_false_iff, Bb, Ac, decide_eq_false_iff_not] at e
   omega
 obtain ⟨B, h1, h2⟩ := hG
 rw [h1, Aa]
 by_cases hB : (B || Ga (Ac w) 100) = true
 ·rw [if_pos hB]
 rw [if_neg hB]
 have hB0 : B = false := by
  cases B with
  | false => rfl
  | true => simp at hB
 obtain ⟨k1, k2, k3⟩ := h2 hB0
 obtain ⟨E, e1, e2⟩ := Bkx a b f g h k m n o p u v (by omega) (by omega) (by omega)
 rw [Amt, Ach, e1, e2]
 by_cases hw : 64 < w.length
 ·have hW : Ga (Ac w) 64 = true := by rw [Bb, Ac]; simp; omega
  simp only [if_pos hW, Aa]
  rw [if_pos (by rw [Be]; simp), Avw, Aa]; rfl
 ·have hW : ¬ (Ga (Ac w) 64 = true) := by rw [Bb, Ac]; simp; omega
  simp only [if_neg hW, Aa]
  rw [if_pos (by rw [Be]; simp), Avw, Aa]; rfl
end Go.Pl
