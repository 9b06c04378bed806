/- A part of the proof of a statement of this seat (see the text that ends in Proof): LwSeek, LwOpen, LwFrame, LwBack, LwGot, LwWs, LwGoes, LwPol, LwRt, LwClip, LwPts, LwTrc, LwPd, LwDt, LwDu. No conditions of its own. -/
import Derived.Test.YthkblcgadmdkgaaGreatDoorDtWA
set_option linter.unusedVariables false
set_option linter.unusedSimpArgs false
namespace Go.Pl
open Go Go.Lv
def okL : List Int → Int → Bool
 | [], _ => true
 | x :: l, left => decide (5 ≤ x ∧ x ≤ left) && okL l (left - x)
theorem Bhs : ∀ l : List Int, (∀ x ∈ l, 5 ≤ x) → 0 ≤ l.sum
 | [], _ => by simp
 | x :: l, h => by
  have h1 := h x List.mem_cons_self
  have h2 := Bhs l fun y hy => h y (List.mem_cons_of_mem _ hy)
  rw [List.sum_cons]; omega
theorem Awb : ∀ (l : List Int) (left : Int), 0 ≤ left → (okL l left = true ↔ (∀ x ∈ l, 5 ≤ x) ∧ l.sum ≤ left)
 | [], left, h => by simp [okL]; exact h
 | x :: l, left, h => by
  rw [okL, Bool.and_eq_true, decide_eq_true_eq, List.sum_cons]
  by_cases hx : 5 ≤ x ∧ x ≤ left
  ·rw [Awb l (left - x) (by omega)]
   constructor
   ·rintro ⟨_, h1, h2⟩
    exact ⟨fun y hy => (List.mem_cons.1 hy).elim (fun e => e ▸ hx.1) (h1 y), by omega⟩
   ·rintro ⟨h1, h2⟩
    exact ⟨hx, fun y hy => h1 y (List.mem_cons_of_mem _ hy), by omega⟩
  ·constructor
   ·rintro ⟨h1, _⟩; exact absurd h1 hx
   ·rintro ⟨h1, h2⟩
    have h3 := h1 x List.mem_cons_self
    have : 0 ≤ l.sum := Bhs l fun y hy => h1 y (List.mem_cons_of_mem _ hy)
    omega
theorem Azp (l : List Int) (hl : l.length ≤ 1000) (hx : ∀ x ∈ l, 0 ≤ x ∧ x < 4294967296) : ∀ (j i q : Nat) (left : Int), i + j = l.length → j < q → 0 ≤ left → left ≤ 100000 → Qm l q left (i : Int) = some (if okL (l.drop i) left = true then 0 else 8)
 | 0, i, q + 1, left, hi, _, _, _ => by
  rw [Qm, Aa9, if_neg (by rw [Af, Ac]; simp; omega), show i = l.length by omega, List.drop_length]; rfl
 | j + 1, i, q + 1, left, hi, hq, h0, h1 => by
  have hlt : i < l.length := by omega
  have hb := hx l[i] (List.getElem_mem hlt)
  rw [Qm, Aa9, if_pos (by rw [Af, Ac]; simp; omega), Cp hlt, Aa, drop_cons hlt]
  by_cases h : 5 ≤ l[i] ∧ l[i] ≤ left
  ·rw [if_neg (by simp [Af, Ax]; omega), Bi (by omega) (by omega), Ag (by omega) (by omega)]
   have ih := Azp l hl hx j (i + 1) q (left - l[i]) (by omega) (by omega) (by omega) (by omega)
   rw [show ((i : Int) + 1) = ((i + 1 : Nat) : Int) by omega, ih]
   simp [okL, h]
  ·rw [if_pos (by simp [Af, Ax]; omega)]
   have : okL (l[i] :: l.drop (i + 1)) left = false := by rw [okL, decide_eq_false h]; rfl
   rw [this]; rfl
def Ax4 (l : List Int) : Bool := decide (1 ≤ l.length ∧ l.length ≤ 1000) && okL l 100000
theorem Azi (l : List Int) (hl : l.length ≤ 1000) (hx : ∀ x ∈ l, 0 ≤ x ∧ x < 4294967296) : Aen l = some (if Ax4 l = true then 0 else 8) := by
 rw [Aen, Ain, Ax4]
 by_cases h : 1 ≤ l.length
 ·rw [if_neg (by rw [Bg, Ax, Ac]; simp; constructor; (intro e; subst e; simp at h); omega), Ait]
  have := Azp l hl hx l.length 0 Az 100000 (by omega) (by have := Am; omega) (by omega) (by omega)
  rw [List.drop_zero] at this
  rw [decide_eq_true (show 1 ≤ l.length ∧ l.length ≤ 1000 from ⟨h, hl⟩), Bool.true_and]
  exact this
 ·have : l = [] := by
   cases l with
   | nil => rfl
   | cons _ _ => simp at h
  subst this; rfl
theorem Bap (l : List Int) (hl : l.length ≤ 1000) (hx : ∀ x ∈ l, 0 ≤ x ∧ x < 4294967296) : ∀ (j i q : Nat) (s : Int), i + j = l.length → j < q → 0 ≤ s → s ≤ 100000 * (i : Int) → Fj l q s (i : Int) = some (if (∀ x ∈ l.drop i, 5 ≤ x ∧ x ≤ 100000) ∧ s + (l.drop i).sum ≤ 100000 then 0 else 8)
 | 0, i, q + 1, s, hi, _, _, _ => by
  rw [Fj, Lo, if_neg (by rw [Af, Ac]; simp; omega), show i = l.length by omega, List.drop_length, Ry, Aaw]
  by_cases h : s ≤ 100000
  ·rw [if_neg (by rw [Ax]; simp; omega), if_pos (by simp; omega)]
  ·rw [if_pos (by rw [Ax]; simp; omega), if_neg (by simp; omega)]
 | j + 1, i, q + 1, s, hi, hq, h0, h1 => by
  have hlt : i < l.length := by omega
  have hb := hx l[i] (List.getElem_mem hlt)
  rw [Fj, Lo, if_pos (by rw [Af, Ac]; simp; omega), Cp hlt, Aa, drop_cons hlt]
  by_cases h5 : l[i] < 5
  ·rw [if_pos (by rw [Af]; simpa using h5), if_neg (fun h => by have := (h.1 l[i] List.mem_cons_self).1; omega)]
  ·rw [if_neg (by rw [Af]; simpa using h5), Aa]
   by_cases h6 : 100000 < l[i]
   ·rw [if_pos (by rw [Ax]; simpa using h6), if_neg (fun h => by have := (h.1 l[i] List.mem_cons_self).2; omega)]
   ·rw [if_neg (by rw [Ax]; simpa using h6), Tu, Ada, Cp hlt, Aa, Ag (by omega) (by omega), Ag (by omega) (by omega)]
    have ih := Bap l hl hx j (i + 1) q (s + l[i]) (by omega) (by omega) (by omega) (by omega)
    rw [show ((i : Int) + 1) = ((i + 1 : Nat) : Int) by omega, ih]
    have e : ((∀ x ∈ l.drop (i + 1), 5 ≤ x ∧ x ≤ 100000) ∧ s + l[i] + (l.drop (i + 1)).sum ≤ 100000) ↔ ((∀ x ∈ l[i] :: l.drop (i + 1), 5 ≤ x ∧ x ≤ 100000) ∧ s + (l[i] :: l.drop (i + 1)).sum ≤ 100000) := by
     rw [List.sum_cons, List.forall_mem_cons, Int.add_assoc]
     constructor
     ·rintro ⟨a, b⟩; exact ⟨⟨by omega, a⟩, b⟩
     ·rintro ⟨⟨_, a⟩, b⟩; exact ⟨a, b⟩
    simp only [e]
theorem Bhb : ∀ {l : List Int}, (∀ x ∈ l, 5 ≤ x) → ∀ x ∈ l, x ≤ l.sum
 | [], _, x, hx => by simp at hx
 | y :: l, h, x, hx => by
  have h1 := h y List.mem_cons_self
  have h2 := Bhs l fun z hz => h z (List.mem_cons_of_mem _ hz)
  rw [List.sum_cons]
  rcases List.mem_cons.1 hx with rfl | hx
  ·omega
  ·have := Bhb (l := l) (fun z hz => h z (List.mem_cons_of_mem _ hz)) x hx
   omega
theorem Bk9 (l : List Int) (hl : l.length ≤ 1000) (hx : ∀ x ∈ l, 0 ≤ x ∧ x < 4294967296) : Sg l = some (if Ax4 l = true then 0 else 8) := by
 rw [Sg, Ui, Ax4]
 by_cases h : 1 ≤ l.length
 ·have := Bap l hl hx l.length 0 Az 0 (by omega) (by have := Am; omega) (by omega) (by omega)
  rw [if_neg (by rw [Af, Ax, Ac]; simp; omega), Uc]
  refine Eq.trans this ?_
  rw [List.drop_zero, decide_eq_true (show 1 ≤ l.length ∧ l.length ≤ 1000 from ⟨h, hl⟩), Bool.true_and]
  have e : ((∀ x ∈ l, 5 ≤ x ∧ x ≤ 100000) ∧ 0 + l.sum ≤ 100000) ↔ okL l 100000 = true := by
   rw [Awb l 100000 (by omega), Int.zero_add]
   constructor
   ·rintro ⟨a, b⟩; exact ⟨fun x hx => (a x hx).1, b⟩
   ·rintro ⟨a, b⟩; exact ⟨fun x hx => ⟨a x hx, Int.le_trans (Bhb a x hx) b⟩, b⟩
  simp only [e]
 ·have : l = [] := by
   cases l with
   | nil => rfl
   | cons _ _ => simp at h
  subst this; rfl
def Ajz (b : List UInt8) (n : Nat) : List Int := (List.range n).map fun i => (Ed (part b (4 * i) 4) : Int)
theorem Aej (b : List UInt8) (n : Nat) : (Ajz b n).length = n := by simp [Ajz]
theorem Ba8 (b : List UInt8) (n : Nat) : Ajz b (n + 1) = Ajz b n ++ [(Ed (part b (4 * n) 4) : Int)] := by simp [Ajz, List.range_succ]
theorem Bks (b : List UInt8) (n : Nat) (h : 4 * n ≤ b.length) : ∀ x ∈ Ajz b n, 0 ≤ x ∧ x < 4294967296 := by
 intro x hx
 simp only [Ajz, List.mem_map, List.mem_range] at hx
 obtain ⟨i, hi, rfl⟩ := hx
 have := Bke (l := part b (4 * i) 4) (by rw [Dn (by omega)]; omega)
 omega
def seekS (b : List UInt8) (n : Nat) : List Int × Int :=
 if ¬ (1 ≤ n ∧ n ≤ 1000) then ([], 2) else if b.length < 4 * n + 4 then ([], 24) else if (Hf (b.take (4 * n))).toNat ≠ Ed (part b (4 * n) 4) then ([], 22) else
 if Ax4 (Ajz b n) = true then (Ajz b n, 0) else ([], 12)
theorem Bjq {b : List UInt8} {n : Nat} (h : 1 ≤ n ∧ n ≤ 1000) (h2 : ¬ b.length < 4 * n + 4) : Ck (Ad (Hf (b.take (4 * n))) : UInt64) (leU (part b (4 * n) 4)) = decide ((Hf (b.take (4 * n))).toNat ≠ Ed (part b (4 * n) 4)) := by
 rw [Agz, Hq, Bool.eq_iff_iff]
 simp only [bne_iff_ne, ne_eq, decide_eq_true_eq]
 rw [← UInt64.toNat_inj, Ajk (by have := (Hf (b.take (4 * n))).toNat_lt; omega), Ajw (by rw [Dn (by omega)]; omega)]
section
variable {b : List UInt8} {n : Nat}
theorem ss1 (h : ¬ (1 ≤ n ∧ n ≤ 1000)) : seekS b n = ([], 2) := by rw [seekS, if_pos h]
variable (h : 1 ≤ n ∧ n ≤ 1000)
include h
theorem ss2 (h2 : b.length < 4 * n + 4) : seekS b n = ([], 24) := by rw [seekS, if_neg (fun e => e h), if_pos h2]
variable (h2 : ¬ b.length < 4 * n + 4)
include h2
theorem ss3 (h3 : (Hf (b.take (4 * n))).toNat ≠ Ed (part b (4 * n) 4)) : seekS b n = ([], 22) := by rw [seekS, if_neg (fun e => e h), if_neg h2, if_pos h3]
theorem ss4 (h3 : (Hf (b.take (4 * n))).toNat = Ed (part b (4 * n) 4)) : seekS b n = if Ax4 (Ajz b n) = true then (Ajz b n, 0) else ([], 12) := by rw [seekS, if_neg (fun e => e h), if_neg h2, if_neg (fun e => e h3)]
end
theorem Bbn (b : List UInt8) (l8 : List Int) (n : Nat) (hn : n ≤ 1000) (h8 : l8.length = n) (hb : 4 * n + 4 ≤ b.length) (hb2 : b.length < 4611686018427387904) : ∀ (j i q : Nat), i + j = n → j < q → Tc b l8 q (i : Int) (Ajz b i ++ List.replicate j 0) = Ad9 (Ajz b n)
 | 0, i, q + 1, hi, _ => by
  obtain rfl : i = n := by omega
  rw [Tc, Ad4, if_neg (by rw [Af, Ac]; simp; omega)]; simp
 | j + 1, i, q + 1, hi, hq => by
  have hlen : (Ajz b i ++ List.replicate (j + 1) 0).length = i + (j + 1) := by simp [Aej]
  have ha := Bao b (4 * i) 4 (by omega) (by omega) (by omega) hb2
  rw [Tc, Ad4, if_pos (by rw [Af, Ac]; simp; omega), Gu (by omega) (by omega), show (4 : Int) * (i : Int) = ((4 * i : Nat) : Int) by omega, show (4 : Int) = ((4 : Nat) : Int) from rfl, ha, Aa]
  simp only
  rw [Cp (by rw [hlen]; omega), Aa, Xr _ (by rw [hlen]; omega), Aa, Aee (by rw [Dn (by omega)]; omega), Ag (by omega) (by omega), List.replicate_succ, Ap3 (Aej _ _)]
  have ih := Bbn b l8 n hn h8 hb hb2 j (i + 1) q (by omega) (by omega)
  rw [Ba8] at ih
  rw [show ((i : Int) + 1) = ((i + 1 : Nat) : Int) by omega, ← ih]
  simp
theorem Atv (b : List UInt8) (n : Nat) (hb : b.length ≤ 100100) : Adc b (n : Int) = some (seekS b n) := by
 rw [Adc, Akq]
 by_cases h : 1 ≤ n ∧ n ≤ 1000
 ·rw [if_neg (by simp [Af, Ax]; omega), Gu (by omega) (by omega), Ag (by omega) (by omega)]
  by_cases h2 : b.length < 4 * n + 4
  ·rw [if_pos (by rw [Af, Ac]; simp; omega), ss2 h h2]
  ·have ha : Alp b (4 * (n : Int)) 4 = some (leU (part b (4 * n) 4), 0) := by
    rw [show (4 : Int) * (n : Int) = ((4 * n : Nat) : Int) by omega]
    exact Bao b (4 * n) 4 (by omega) (by omega) (by omega) (by omega)
   rw [if_neg (by rw [Af, Ac]; simp; omega), ha, Aa]
   simp only
   rw [Jo (by omega) (by omega), Aa, show (4 * (n : Int)).toNat = 4 * n by omega, Bij _ (by simp; omega), Aa]
   simp only
   rw [Bjq h h2]
   by_cases h3 : (Hf (b.take (4 * n))).toNat = Ed (part b (4 * n) 4)
   ·have hlp := Bbn b (List.replicate n 0) n (by omega) (by simp) (by omega) (by omega) n 0 Az (by omega) (by have := Am; omega)
    rw [if_neg (by simpa using h3), Aw5 (by omega) (by omega), Aa, Dj (by rw [Bg]; simp), Aa, Akh, Int.toNat_natCast]
    refine Eq.trans (hlp) ?_
    rw [Ad9, Ard, Azi _ (by rw [Aej]; omega) (Bks b n (by omega)), Aa, ss4 h h2 h3]
    cases Ax4 (Ajz b n) <;> rfl
   ·rw [if_pos (by simpa using h3), ss3 h h2 h3]
 ·rw [if_pos (by simp [Af, Ax]; omega), ss1 h]
theorem Aq3 (b : List UInt8) (n : Nat) (hn : n ≤ 1000) (hb : 4 * n + 4 ≤ b.length) (hb2 : b.length < 4611686018427387904) : ∀ (j i q : Nat), i + j = n → j < q → Gg b (n : Int) q (i : Int) (Ajz b i) = Mz (Ajz b n)
 | 0, i, q + 1, hi, _ => by
  obtain rfl : i = n := by omega
  rw [Gg, Nk, if_neg (by rw [Af]; simp)]
 | j + 1, i, q + 1, hi, hq => by
  have hc : Bt b ((4 : Int) * (i : Int)) ((4 : Int) * (i : Int) + 4) = some (part b (4 * i) 4) := by
   rw [show (4 : Int) * (i : Int) = ((4 * i : Nat) : Int) by omega]
   exact My (4 * i) 4 (by omega)
  rw [Gg, Nk, if_pos (by rw [Af]; simp; omega), Gu (by omega) (by omega), Ag (by omega) (by omega), hc, Aa, Bge _ (by rw [Dn (by omega)]; omega), Aa, Gt (by rw [Aej]; simp; omega), Aa,
   Aee (by rw [Dn (by omega)]; omega), Ag (by omega) (by omega), ← Ba8]
  exact Aq3 b n hn hb hb2 j (i + 1) q (by omega) (by omega)
theorem Azo (b : List UInt8) (n : Nat) (hb : b.length ≤ 100100) : Nt b (n : Int) = some (seekS b n) := by
 rw [Nt, Vg]
 by_cases h : 1 ≤ n ∧ n ≤ 1000
 ·rw [if_neg (by simp [Af, Ax]; omega), Gu (by omega) (by omega), Ag (by omega) (by omega)]
  by_cases h2 : b.length < 4 * n + 4
  ·rw [if_pos (by rw [Af, Ac]; simp; omega), ss2 h h2]
  ·have hc : Bt b ((4 : Int) * (n : Int)) ((4 : Int) * (n : Int) + 4) = some (part b (4 * n) 4) := by
    rw [show (4 : Int) * (n : Int) = ((4 * n : Nat) : Int) by omega]
    exact My (4 * n) 4 (by omega)
   have hs : Ck (leU (part b (4 * n) 4)) (Ad (Hf (b.take (4 * n))) : UInt64) = decide ((Hf (b.take (4 * n))).toNat ≠ Ed (part b (4 * n) 4)) := by
    rw [← Bjq h h2, Agz, Agz, Bool.eq_iff_iff]; simp only [bne_iff_ne, ne_eq]; exact not_congr eq_comm
   rw [if_neg (by rw [Af, Ac]; simp; omega), hc, Aa, Jo (by omega) (by omega), Aa, show (4 * (n : Int)).toNat = 4 * n by omega, Bge _ (by rw [Dn (by omega)]; omega), Aa, Bn1 _ (by simp; omega), Aa, hs]
   by_cases h3 : (Hf (b.take (4 * n))).toNat = Ed (part b (4 * n) 4)
   ·have hlp := Aq3 b n (by omega) (by omega) (by omega) n 0 Az (by omega) (by have := Am; omega)
    rw [if_neg (by simpa using h3), Wt, Wh, Wg]
    refine Eq.trans hlp ?_
    rw [Mz, Aev, Bk9 _ (by rw [Aej]; omega) (Bks b n (by omega)), Aa, ss4 h h2 h3]
    cases Ax4 (Ajz b n) <;> rfl
   ·rw [if_pos (by simpa using h3), ss3 h h2 h3]
 ·rw [if_pos (by simp [Af, Ax]; omega), ss1 h]
theorem Ayx {b : List UInt8} {n : Nat} (h : (seekS b n).2 = 0) : seekS b n = (Ajz b n, 0) ∧ 1 ≤ n ∧ n ≤ 1000 ∧ 4 * n + 4 ≤ b.length ∧ (∀ x ∈ Ajz b n, 5 ≤ x) ∧ (Ajz b n).sum ≤ 100000 := by
 unfold seekS at h ⊢
 split at h; · simp at h
 rename_i c1; rw [if_neg c1]
 split at h; · simp at h
 rename_i c2; rw [if_neg c2]
 split at h; · simp at h
 rename_i c3; rw [if_neg c3]
 split at h
 ·rename_i c4
  rw [if_pos c4]
  have c4' := c4
  rw [Ax4, Bool.and_eq_true, Awb _ _ (by omega)] at c4'
  exact ⟨rfl, by omega, by omega, by omega, c4'.2.1, c4'.2.2⟩
 ·simp at h
end Go.Pl
set_option linter.unusedVariables false
set_option linter.unusedSimpArgs false
namespace Go.Pl
open Go Go.Lv
def hdr (b : List UInt8) : List UInt8 := b.drop (frontS b).1.toNat
abbrev Op8 := Int × Int × Int × Int × Int × Int × (List Int) × Int
def Af7 (e : Int) : Op8 := (0, 0, 0, 0, 0, 0, [], e)
theorem Bo4 (A K : Nat) (h : A ≤ 200000) (hk : K ≤ 1000) : Ae (Ae (A : Int) (Be 4 (K : Int))) 4 = ((A + 4 * K + 4 : Nat) : Int) := by
 rw [Gu (by omega) (by omega), Ag (a := (A : Int)) (by omega) (by omega), Ag (by omega) (by omega)]; omega
theorem Aun {f c w r n : Nat} (h1 : shapeB f c w r n = true) (h2 : fitB c r n = true) (b : List UInt8) (hb : b.length ≤ 100100) (A : Nat) (hA : A ≤ b.length) :
  Lg b (f : Int) (c : Int) (w : Int) (r : Int) (n : Int) (A : Int) =
   some (if (seekS (b.drop A) (framesL (longN r) n).length).2 ≠ 0 then Af7 (seekS (b.drop A) (framesL (longN r) n).length).2 else ((f : Int), (c : Int), (w : Int), (r : Int), (n : Int), ((A + 4 * (framesL (longN r) n).length + 4 : Nat) : Int), (seekS (b.drop A) (framesL (longN r) n).length).1, 0)) := by
 rw [Lg, Apx, Aei h1 h2, Aa]
 simp only
 rw [if_neg (by rw [Ah]; simp), Gi (by omega) (by omega), Aa, Ac, show (A : Int).toNat = A from rfl, Atv _ _ (by simp; omega), Aa]
 by_cases h : (seekS (b.drop A) (framesL (longN r) n).length).2 ≠ 0
 ·rw [if_pos h, if_pos (by rw [Ah]; simpa using h)]; rfl
 ·have h0 : (seekS (b.drop A) (framesL (longN r) n).length).2 = 0 := by simpa using h
  obtain ⟨g1, g2, g3, g4, g5, g6⟩ := Ayx h0
  have gl : (seekS (b.drop A) (framesL (longN r) n).length).1.length = (framesL (longN r) n).length := by rw [g1]; exact Aej _ _
  rw [if_neg h, if_neg (by rw [Ah]; simpa using h), Ac, gl, Bo4 _ _ (by omega) (by omega)]
theorem Bfm {f c w r n : Nat} (h1 : shapeB f c w r n = true) (h2 : fitB c r n = true) (b : List UInt8) (hb : b.length ≤ 100100) (A : Nat) (hA : A ≤ b.length) :
  Hj b (f : Int) (c : Int) (w : Int) (r : Int) (n : Int) (A : Int) =
   some (if (seekS (b.drop A) (framesL (longN r) n).length).2 ≠ 0 then Af7 (seekS (b.drop A) (framesL (longN r) n).length).2 else ((f : Int), (c : Int), (w : Int), (r : Int), (n : Int), ((A + 4 * (framesL (longN r) n).length + 4 : Nat) : Int), (seekS (b.drop A) (framesL (longN r) n).length).1, 0)) := by
 have hs : (1 ≤ r ∧ r ≤ 1048576) ∧ 1 ≤ n ∧ 1 ≤ c := by
  simp only [shapeB, decide_eq_true_eq] at h1; omega
 have hf : n ≤ 4000 := by
  simp only [fitB, decide_eq_true_eq] at h2
  have := Nat.div_le_self 4000 c
  omega
 rw [Hj, Rs, Gi (by omega) (by omega), Aa, Ah1 hs.1.2 hs.2.1 hf, Aa, Ac, show (A : Int).toNat = A from rfl, Azo _ _ (by simp; omega), Aa]
 simp only
 rw [Sn, Aa3]
 by_cases h : (seekS (b.drop A) (framesL (longN r) n).length).2 ≠ 0
 ·rw [if_pos h, if_pos (by rw [Ah]; simpa using h)]; rfl
 ·have h0 : (seekS (b.drop A) (framesL (longN r) n).length).2 = 0 := by simpa using h
  obtain ⟨g1, g2, g3, g4, g5, g6⟩ := Ayx h0
  have gl : (seekS (b.drop A) (framesL (longN r) n).length).1.length = (framesL (longN r) n).length := by rw [g1]; exact Aej _ _
  rw [if_neg h, if_neg (by rw [Ah]; simpa using h), Ac, gl, Bo4 _ _ (by omega) (by omega)]
structure Opn (b p : List UInt8) (f c w r n A : Nat) (l : List Int) : Prop where
 prog : seekto_Open b p = some ((f : Int), (c : Int), (w : Int), (r : Int), (n : Int), (A : Int), l, 0)
 ref : cadenzaref40_Opened b p = some ((f : Int), (c : Int), (w : Int), (r : Int), (n : Int), (A : Int), l, 0)
 pass : p.length ≤ 64
 file : b.length ≤ 100000
 shape : shapeB f c w r n = true
 fit : fitB c r n = true
 len : l.length = (framesL (longN r) n).length
 some1 : 1 ≤ l.length ∧ l.length ≤ 1000
 five : ∀ x ∈ l, 5 ≤ x
 sum : l.sum ≤ 100000
 at' : A ≤ b.length
 tag : (frontS b).2 = 0
 head : readS (hdr b) = ((f : Int), (c : Int), (w : Int), (r : Int), (n : Int), 0)
 tab : seekS (b.drop ((frontS b).1.toNat + 22 + (if f = 2 then 8 else 0))) l.length = (l, 0)
 pos : A = (frontS b).1.toNat + 22 + (if f = 2 then 8 else 0) + 4 * l.length + 4
theorem Awc (b p : List UInt8) (hb : b.length ≤ 100100) (hp : p.length ≤ 64) :
  (∃ e : Int, e ≠ 0 ∧ seekto_Open b p = some (Af7 e) ∧ cadenzaref40_Opened b p = some (Af7 e)) ∨ (∃ f c w r n A l, Opn b p f c w r n A l) := by
 by_cases h1 : 100000 < b.length
 ·refine .inl ⟨4, by omega, ?_, ?_⟩
  ·rw [seekto_Open, Qk, if_neg (by rw [Ax, Ac]; simp; omega), if_pos (by rw [Ax, Ac]; simp; omega)]; rfl
  ·rw [cadenzaref40_Opened, Hh, if_pos (by rw [Ax, Ac]; simp; omega)]; rfl
 have hP : seekto_Open b p = seekto_Open b p := rfl
 have hR : cadenzaref40_Opened b p = cadenzaref40_Opened b p := rfl
 conv at hP => rhs; rw [seekto_Open, Qk, if_neg (by rw [Ax, Ac]; simp; omega), if_neg (by rw [Ax, Ac]; simp; omega), Wr b (by omega), Aa]
 conv at hR => rhs; rw [cadenzaref40_Opened, Hh, if_neg (by rw [Ax, Ac]; simp; omega), Xd b (by omega), Aa]
 by_cases h2 : (frontS b).2 = 0
 ·obtain ⟨p0, p1, p2⟩ := Akw h2
  have hc := Gi (l := b) p0 p1
  simp only [h2] at hP hR
  rw [if_neg (by rw [Ah]; simp), hc, Aa, show b.drop (frontS b).1.toNat = hdr b from rfl, Al1 _ (by simp [hdr]; omega), Aa] at hP
  rw [if_neg (by rw [Ah]; simp), hc, Aa, show b.drop (frontS b).1.toNat = hdr b from rfl, Al0 _ (by simp [hdr]; omega), Aa] at hR
  by_cases h3 : (readS (hdr b)).2.2.2.2.2 = 0
  ·obtain ⟨g1, g2, g3, g4⟩ := Ahn h3
   have hlen : (hdr b).length = b.length - (frontS b).1.toNat := by simp [hdr]
   generalize hF : (frontS b).1.toNat = F at *
   have hF' : (frontS b).1 = (F : Int) := by omega
   rw [g1, hF'] at hP hR
   simp only at hP hR
   generalize f0 (hdr b) = f at *
   generalize f1 (hdr b) = c at *
   generalize f2 (hdr b) = w at *
   generalize f3 (hdr b) = r at *
   generalize f4 (hdr b) = n at *
   have t22 : Ae (F : Int) 22 = ((F + 22 : Nat) : Int) := by rw [Ag (by omega) (by omega)]; omega
   have t30 : Ae ((F + 22 : Nat) : Int) 8 = ((F + 30 : Nat) : Int) := by rw [Ag (by omega) (by omega)]; omega
   have hf12 : f = 1 ∨ f = 2 := by simp only [shapeB, decide_eq_true_eq] at g3; omega
   rw [if_neg (by rw [Ah]; simp), t22, t30] at hP hR
   have hend : ∀ A : Nat, A ≤ b.length → A = F + 22 + (if f = 2 then 8 else 0) → seekto_Open b p = Lg b (f : Int) (c : Int) (w : Int) (r : Int) (n : Int) (A : Int) → cadenzaref40_Opened b p = Hj b (f : Int) (c : Int) (w : Int) (r : Int) (n : Int) (A : Int) →
     (∃ e : Int, e ≠ 0 ∧ seekto_Open b p = some (Af7 e) ∧ cadenzaref40_Opened b p = some (Af7 e)) ∨ (∃ f c w r n A l, Opn b p f c w r n A l) := by
    intro A hA hA2 e1 e2
    rw [Aun g3 g4 b hb A hA] at e1
    rw [Bfm g3 g4 b hb A hA] at e2
    by_cases h : (seekS (b.drop A) (framesL (longN r) n).length).2 ≠ 0
    ·rw [if_pos h] at e1 e2
     exact .inl ⟨_, h, e1, e2⟩
    ·have h0 : (seekS (b.drop A) (framesL (longN r) n).length).2 = 0 := by simpa using h
     obtain ⟨k1, k2, k3, k4, k5, k6⟩ := Ayx h0
     have gl : (seekS (b.drop A) (framesL (longN r) n).length).1.length = (framesL (longN r) n).length := by rw [k1]; exact Aej _ _
     rw [if_neg h] at e1 e2
     rw [List.length_drop] at k4
     refine .inr ⟨f, c, w, r, n, _, _, ⟨e1, e2, hp, by omega, g3, g4, gl, by omega, by rw [k1]; exact k5, by rw [k1]; exact k6, by omega, h2, g1, by rw [gl, hF, ← hA2]; exact Prod.ext rfl h0, by rw [gl, hF, ← hA2]⟩⟩
   by_cases hpass : ((p == ([] : List UInt8)) != (geq (f : Int) (1 : Int))) = true
   ·rw [if_pos hpass] at hP hR
    exact .inl ⟨26, by omega, hP, hR⟩
   ·rw [if_neg hpass] at hP hR
    have hpf : (p = [] ↔ f = 1) := by
     rw [Bg] at hpass
     have h5 : (p == ([] : List UInt8)) = ((f : Int) == 1) := by simpa using hpass
     have h6 : (p == ([] : List UInt8)) = true ↔ ((f : Int) == 1) = true := by rw [h5]
     rw [beq_iff_eq, beq_iff_eq] at h6
     rw [h6]; omega
    by_cases h5 : f = 2
    ·have hpne : p ≠ [] := fun e => by have := hpf.1 e; omega
     have h64 : (p != ([] : List UInt8)) = true := by simpa using hpne
     rw [if_pos h64] at hP
     rw [if_pos (by rw [Bg, h5]; rfl), Bi (by rw [Ac]; omega) (by rw [Ac]; omega)] at hR
     by_cases h6 : b.length < F + 30
     ·rw [if_pos (by rw [Af, Ac]; simp; omega)] at hP hR
      exact .inl ⟨24, by omega, hP, hR⟩
     ·have hseg : ((b.take (F + 30)).drop (F + 22)).length = 8 := by simp; omega
      rw [if_neg (by rw [Af, Ac]; simp; omega), Ps (by omega) (by omega) (by omega), Aa] at hP hR
      rw [Xc, Bbc p hp, Aa] at hP
      rw [Atz p hp, Aa] at hR
      simp only at hP
      rw [if_neg (by rw [Ah, Ah, Ac, Ac, Nm, show ((F + 30 : Nat) : Int).toNat = F + 30 from rfl, show ((F + 22 : Nat) : Int).toNat = F + 22 from rfl, hseg]; simp), Gj, Aa, Aa] at hP
      simp only at hP
      rw [if_neg (by rw [Ah]; simp)] at hP
      generalize (b.take ((F + 30 : Nat) : Int).toNat).drop ((F + 22 : Nat) : Int).toNat = seg at *
      by_cases h7 : seg = leB (Ac8 p).toNat 8
      ·rw [if_neg (by simp [h7])] at hP
       rw [if_neg (by simp [h7])] at hR
       exact hend (F + 30) (by omega) (by rw [if_pos h5]) hP hR
      ·rw [if_pos (by simpa using h7)] at hP
       rw [if_pos (by simpa using h7)] at hR
       exact .inl ⟨26, by omega, hP, hR⟩
    ·have hpe : p = [] := hpf.2 (by omega)
     rw [if_neg (by rw [hpe]; simp)] at hP
     rw [if_neg (by rw [Bg]; simp; omega)] at hR
     exact hend (F + 22) (by omega) (by rw [if_neg h5]) hP hR
  ·generalize readS (hdr b) = v at *
   obtain ⟨v1, v2, v3, v4, v5, v6⟩ := v
   simp only at h3 hP hR
   rw [if_pos (by rw [Ah]; simpa using h3)] at hP hR
   exact .inl ⟨v6, h3, hP, hR⟩
 ·generalize frontS b = v at *
  obtain ⟨v, e⟩ := v
  simp only at h2 hP hR
  rw [if_pos (by rw [Ah]; simpa using h2)] at hP hR
  exact .inl ⟨e, h2, hP, hR⟩
end Go.Pl
set_option linter.unusedVariables false
set_option linter.unusedSimpArgs false
namespace Go.Pl
open Go Go.Lv
theorem Ba5 (l : List Int) (i : Nat) : (l.take i).sum + (l.drop i).sum = l.sum := by
 conv => rhs; rw [← List.take_append_drop i l, List.sum_append]
theorem Eb {l : List Int} (h5 : ∀ x ∈ l, 5 ≤ x) (i : Nat) : 0 ≤ (l.take i).sum ∧ (l.take i).sum ≤ l.sum := by
 have h1 := Bhs (l.take i) fun x hx => h5 x (List.mem_of_mem_take hx)
 have h2 := Bhs (l.drop i) fun x hx => h5 x (List.mem_of_mem_drop hx)
 have := Ba5 l i
 omega
theorem Gz {l : List Int} {i : Nat} (h : i < l.length) : (l.take (i + 1)).sum = (l.take i).sum + l[i] := by
 rw [Akz h, List.sum_append]; simp
def Avs (l : List Int) (n : Nat) : List Int := (List.range n).map fun i => (l.take i).sum
theorem Bd0 (l : List Int) (n : Nat) : (Avs l n).length = n := by simp [Avs]
theorem Bld (l : List Int) (n : Nat) : Avs l (n + 1) = Avs l n ++ [(l.take n).sum] := by simp [Avs, List.range_succ]
theorem Ay1 (l : List Int) {n i : Nat} (h : i < n) : getI (Avs l n) (i : Int) = some ((l.take i).sum) := by
 rw [Cp (by rw [Bd0]; exact h)]; simp [Avs]
section
variable {l : List Int} (hl : l.length ≤ 1000) (h5 : ∀ x ∈ l, 5 ≤ x) (hs : l.sum ≤ 100000)
include hl h5 hs
theorem Baq : ∀ (j i q : Nat), i + j = l.length → j < q → Kv l q (i : Int) ((l.take i).sum) (Avs l (i + 1)) = some (Avs l (l.length + 1), 0)
 | 0, i, q + 1, hi, _ => by
  rw [Kv, Wv, if_neg (by rw [Af, Ac]; simp; omega), show i = l.length by omega]; rfl
 | j + 1, i, q + 1, hi, hq => by
  have hlt : i < l.length := by omega
  have ih := Baq j (i + 1) q (by omega) (by omega)
  have b1 := Eb h5 i
  have b2 := Eb h5 (i + 1)
  have e := Gz hlt
  rw [Bld l (i + 1), e] at ih
  rw [Kv, Wv, if_pos (by rw [Af, Ac]; simp; omega), Cp hlt, Aa, Ag (by omega) (by omega), Gt (by simp [Bd0]; omega), Aa, Adj, Alw, Ag (by omega) (by omega), Ag (by omega) (by omega)]
  exact ih
theorem Bsr (h1 : 1 ≤ l.length) : Ad6 l = some (Avs l (l.length + 1), 0) := by
 have h := Baq hl h5 hs l.length 0 Az (by omega) (by have := Am; omega)
 have hx : ∀ x ∈ l, 0 ≤ x ∧ x < 4294967296 := fun x hx => by
  have := Bhb h5 x hx
  have := h5 x hx
  omega
 have ht : Ax4 l = true := by
  rw [Ax4, Bool.and_eq_true]
  exact ⟨by simpa using ⟨h1, hl⟩, (Awb l 100000 (by omega)).2 ⟨h5, hs⟩⟩
 rw [Ad6, Adr, Azi l hl hx, Aa, if_pos ht, if_neg (by rw [Ah]; simp)]
 exact h
theorem Azj (f c w r n A : Int) (hA : 0 ≤ A) (hA2 : A ≤ 200000) (k : Nat) (hk : k ≤ l.length) : ∀ (j i q : Nat), i + j = k → j < q → Fw (k : Int) f c w r n A l q (A + (l.take i).sum) (i : Int) = some (A + (l.take k).sum)
 | 0, i, q + 1, hi, _ => by
  rw [Fw, Mf, if_neg (by rw [Af]; simp; omega), show i = k by omega]; rfl
 | j + 1, i, q + 1, hi, hq => by
  have hlt : i < l.length := by omega
  have ih := Azj f c w r n A hA hA2 k hk j (i + 1) q (by omega) (by omega)
  have b1 := Eb h5 i
  have b2 := Eb h5 (i + 1)
  have e := Gz hlt
  rw [e, ← Int.add_assoc] at ih
  rw [Fw, Mf, if_pos (by rw [Af]; simp; omega), Cp hlt, Aa, Ag (by omega) (by omega), Ag (by omega) (by omega)]
  exact ih
theorem Ats (f c w r n A : Int) (hA : 0 ≤ A) (hA2 : A ≤ 200000) (k : Nat) (hk : k ≤ l.length) : Le f c w r n A l (k : Int) = some (A + (l.take k).sum) := by
 have h := Azj hl h5 hs f c w r n A hA hA2 k hk k 0 Az (by omega) (by have := Am; omega)
 rw [List.take_zero, List.sum_nil, Int.add_zero] at h
 exact h
end
theorem Ar1 {g n : Nat} (hg : 1 ≤ g) (hn : 1 ≤ n) {x : Int} (h : x ∈ framesL g n) : ∃ m : Nat, x = m ∧ 1 ≤ m ∧ m ≤ n := by
 have hmul := Nat.div_mul_le_self (n - 1) g
 rw [framesL, List.mem_append] at h
 rcases h with h | h
 ·rw [List.mem_replicate] at h
  have h1 : 1 ≤ (n - 1) / g := Nat.pos_of_ne_zero h.1
  have := Nat.mul_le_mul_right g h1
  exact ⟨g, h.2, hg, by omega⟩
 ·rw [List.mem_singleton] at h
  exact ⟨_, h, by omega, by omega⟩
theorem Yj {f c w r n : Nat} (h : shapeB f c w r n = true) : (1 ≤ c ∧ c ≤ 6) ∧ Dp (w : Int) ∧ (1 ≤ r ∧ r ≤ 1048576) ∧ 1 ≤ n ∧ (f = 1 ∨ f = 2) := by
 simp only [shapeB, decide_eq_true_eq] at h
 refine ⟨h.2.1, ?_, h.2.2.2.1, h.2.2.2.2, h.1⟩
 rcases h.2.2.1 with rfl | rfl | rfl
 ·exact .inl rfl
 ·exact .inr (.inl rfl)
 ·exact .inr (.inr rfl)
theorem Ble {b p : List UInt8} {f c w r n A : Nat} {l : List Int} (o : Opn b p f c w r n A l) (k : Nat) (hk : k < l.length) :
  ∃ y : List UInt8 × Int, Ta (k : Int) (framesL (longN r) n) (f : Int) (c : Int) (w : Int) (r : Int) (n : Int) (A : Int) b (tapsOf p) l (Avs l (l.length + 1)) = some y ∧
   cadenzaref40_Got b p (f : Int) (c : Int) (w : Int) (r : Int) (n : Int) (A : Int) l (k : Int) = some y := by
 obtain ⟨hc, hw, hr, hn, _⟩ := Yj o.shape
 have hfit : n ≤ 4000 / c := by have := o.fit; simp only [fitB, decide_eq_true_eq] at this; exact this.1
 have hn4 : n ≤ 4000 := by have := Nat.div_le_self 4000 c; omega
 have hA := o.at'
 have hfile := o.file
 have hlen := o.len
 have b1 := Eb o.five k
 have b2 := Eb o.five (k + 1)
 have e := Gz hk
 have h5 := o.five l[k] (List.getElem_mem _)
 have hsum := o.sum
 have hs1 := o.some1
 have hkf : k < (framesL (longN r) n).length := by omega
 obtain ⟨m, hm, m1, m2⟩ := Ar1 (Ag5 r) hn (List.getElem_mem hkf)
 have e1 : Ae (k : Int) 1 = ((k + 1 : Nat) : Int) := by rw [Ag (by omega) (by omega)]; omega
 rw [Ta, Afl, if_neg (by rw [Ah]; simp), if_neg (by simp [Af, Dv, Ac]; omega), e1, Ay1 l (by omega), Ay1 l (by omega), Aa, Aa, Aa, Aa, Afr, Afx, Ag (a := (A : Int)) (b := (l.take (k + 1)).sum) (by omega) (by omega), Ag (by omega) (by omega)]
 rw [cadenzaref40_Got, Kc, Ats hs1.2 o.five o.sum _ _ _ _ _ (A : Int) (by omega) (by omega) k (by omega), Aa, Cp hk, Aa, Bi (by rw [Ac]; omega) (by rw [Ac]; omega)]
 by_cases hto : (b.length : Int) < (A : Int) + (l.take (k + 1)).sum
 ·rw [if_pos (by rw [Ax, Ac, decide_eq_true_eq]; omega), if_pos (by rw [Af, Ac, decide_eq_true_eq]; omega)]
  exact ⟨_, rfl, rfl⟩
 ·rw [if_neg (by rw [Ax, Ac, decide_eq_true_eq]; omega), if_neg (by rw [Af, Ac, decide_eq_true_eq]; omega), Azz p o.pass, Ah1 hr.2 hn hn4]
  simp only [Aa]
  rw [Ag (a := (A : Int) + (l.take k).sum) (b := l[k]) (by omega) (by omega), Int.add_assoc, ← e, Cp hkf, hm]
  simp only [Aa]
  rw [Ps (by omega) (by omega) (by omega), Aa, Aa]
  obtain ⟨x, er, g1, g2, g3, _⟩ := Aut (ch := c) (n := m) (t := tapsOf p) ((b.take ((A : Int) + (l.take (k + 1)).sum).toNat).drop ((A : Int) + (l.take k).sum).toNat) hw (Awv p) hc.1 hc.2 m1 (by omega)
  rw [g1, g2, Aa, Aa]
  simp only
  rw [Af6, Af5, Po, Xx]
  by_cases her : er = 0
  ·obtain ⟨g4, g5, _⟩ := g3 her
   rw [if_neg (by rw [Ah]; simpa using her), if_neg (by rw [Ah]; simpa using her), Az3 hw g5 g4, Baz hw g5 g4, Aa, Aa]
   exact ⟨_, rfl, rfl⟩
  ·rw [if_pos (by rw [Ah]; simpa using her), if_pos (by rw [Ah]; simpa using her)]
   exact ⟨_, rfl, rfl⟩
theorem Ayc {b p : List UInt8} (hp : p.length ≤ 64) {y : Op8} (h : cadenzaref40_Opened b p = some y) : Nc b p = some y := by
 rw [Nc, if_neg (by rw [Ax, Ac]; simp; omega), h, Aa]
theorem Bd9 {b p : List UInt8} {f c w r n A : Nat} {l : List Int} (o : Opn b p f c w r n A l) (k : Int) : Aat b p k = Ta k (framesL (longN r) n) (f : Int) (c : Int) (w : Int) (r : Int) (n : Int) (A : Int) b (tapsOf p) l (Avs l (l.length + 1)) := by
 have hs1 := o.some1
 rw [Aat, Afv, o.prog, Aa]
 simp only
 rw [if_neg (by rw [Ah]; simp), Aei o.shape o.fit, Aa]
 simp only
 rw [if_neg (by rw [Ah]; simp), Bsr hs1.2 o.five o.sum hs1.1, Aa]
 simp only
 rw [if_neg (by rw [Ah]; simp), Bbm p o.pass, Aa]
 simp only
 rw [if_neg (by rw [Ah]; simp), Ac, ← o.len, Ay1 l (by omega), Aa, Aa]
end Go.Pl
set_option linter.unusedVariables false
set_option linter.unusedSimpArgs false
namespace Go.Pl
open Go Go.Lv
theorem Buc (n m : Nat) : Mq n m 0 ≠ Mq n m 2147483648 := by
 intro h
 simp [Mq, leB, APE] at h
def Bp (b : List UInt8) : List UInt8 := b.drop (b.length - 32)
theorem Bf5 {b : List UInt8} (h : 32 ≤ b.length) : (Bp b).length = 32 := by rw [Bp, List.length_drop]; omega
def itA (t : List UInt8) : Nat := Ed (part t 12 4) - 32
def mnA (t : List UInt8) : Nat := Ed (part t 16 4)
def Vh (b : List UInt8) : Int × Int :=
 if ¬ (32 ≤ b.length ∧ (Bp b).take 8 = APE) then (0, 6) else if Aas (Bp b) = true then (0, 12) else
 if Bp b = Mq (itA (Bp b)) (mnA (Bp b)) 0 then (if b.length < itA (Bp b) + 32 then (0, 24) else (((itA (Bp b) + 32 : Nat) : Int), 0)) else
 if Bp b ≠ Mq (itA (Bp b)) (mnA (Bp b)) 2147483648 then (0, 12) else
 if b.length < itA (Bp b) + 64 then (0, 24) else
 if (b.take (b.length - (itA (Bp b) + 64) + 32)).drop (b.length - (itA (Bp b) + 64)) ≠ Mq (itA (Bp b)) (mnA (Bp b)) 2684354560 then (0, 12) else (((itA (Bp b) + 64 : Nat) : Int), 0)
section
variable {b : List UInt8}
theorem ba1 (h : ¬ (32 ≤ b.length ∧ (Bp b).take 8 = APE)) : Vh b = (0, 6) := by rw [Vh, if_pos h]
variable (h : 32 ≤ b.length ∧ (Bp b).take 8 = APE)
include h
theorem ba2 (h2 : Aas (Bp b) = true) : Vh b = (0, 12) := by rw [Vh, if_neg (fun h' => h' h), if_pos h2]
variable (h2 : Aas (Bp b) = false)
include h2
theorem ba3 (h3 : Bp b = Mq (itA (Bp b)) (mnA (Bp b)) 0) : Vh b = if b.length < itA (Bp b) + 32 then (0, 24) else (((itA (Bp b) + 32 : Nat) : Int), 0) := by
 rw [Vh, if_neg (fun h' => h' h), if_neg (by rw [h2]; simp), if_pos h3]
variable (h3 : Bp b ≠ Mq (itA (Bp b)) (mnA (Bp b)) 0)
include h3
theorem ba4 (h4 : Bp b ≠ Mq (itA (Bp b)) (mnA (Bp b)) 2147483648) : Vh b = (0, 12) := by
 rw [Vh, if_neg (fun h' => h' h), if_neg (by rw [h2]; simp), if_neg h3, if_pos h4]
variable (h4 : Bp b = Mq (itA (Bp b)) (mnA (Bp b)) 2147483648)
include h4
theorem ba5 (h5 : b.length < itA (Bp b) + 64) : Vh b = (0, 24) := by
 rw [Vh, if_neg (fun h' => h' h), if_neg (by rw [h2]; simp), if_neg h3, if_neg (fun e => e h4), if_pos h5]
theorem ba6 (h5 : ¬ b.length < itA (Bp b) + 64) : Vh b = if (b.take (b.length - (itA (Bp b) + 64) + 32)).drop (b.length - (itA (Bp b) + 64)) ≠ Mq (itA (Bp b)) (mnA (Bp b)) 2684354560 then (0, 12) else (((itA (Bp b) + 64 : Nat) : Int), 0) := by
 rw [Vh, if_neg (fun h' => h' h), if_neg (by rw [h2]; simp), if_neg h3, if_neg (fun e => e h4), if_neg h5]
end
theorem Beu {b : List UInt8} {n : Int} (h : Vh b = (n, 0)) : 32 ≤ n ∧ n ≤ b.length := by
 unfold Vh at h
 split at h; · simp at h
 rename_i h32
 split at h; · simp at h
 split at h
 ·split at h; · simp at h
  simp only [Prod.mk.injEq, and_true] at h; omega
 split at h; · simp at h
 split at h; · simp at h
 split at h; · simp at h
 simp only [Prod.mk.injEq, and_true] at h; omega
theorem Blc {b : List UInt8} (h : (Vh b).2 ≠ 0) : (Vh b).1 = 0 := by
 revert h
 unfold Vh
 split; · simp
 split; · simp
 split
 ·split <;> simp
 split; · simp
 split; · simp
 split <;> simp
theorem Bo5 {b : List UInt8} (h : 32 ≤ b.length) (hl : b.length < 4611686018427387904) : Al (Ac b) 32 = ((b.length - 32 : Nat) : Int) ∧ Bt b ((b.length - 32 : Nat) : Int) (Ac b) = some (Bp b) := by
 refine ⟨by rw [Ac, Bi (by omega) (by omega)]; omega, ?_⟩
 rw [Gi (by omega) (by omega)]; rfl
theorem Blw (b : List UInt8) (hl : b.length < 4611686018427387904) : Atc b = some (Vh b) := by
 rw [Atc, Aph]
 by_cases h32 : 32 ≤ b.length
 ·obtain ⟨e1, e2⟩ := Bo5 h32 hl
  have hl3 := Bf5 h32
  rw [if_neg (by rw [e1, Af]; simp), e1, e2, Aa, Al6, Aa]
  by_cases hp : (Bp b).take 8 = APE
  ·have h := And.intro h32 hp
   rw [if_neg (by simpa [APE, hl3] using hp), Apc, Avg, e1, e2, Aa, Amr _ 0 (by omega) (by omega) (by decide), Aa]
   cases hb : Aas (Bp b) with
   | true =>
    rw [ba2 h hb]
    simp only [if_true, Bool.false_eq_true, if_false]
    rw [Aa, Amr _ 2147483648 (by omega) (by omega) (by decide), Aa, hb]; rfl
   | false =>
    obtain ⟨i1, i2, i3, i4⟩ := Ato (Bp b) (by omega) hb
    have eI : Ed (part (Bp b) 12 4) - 32 = itA (Bp b) := rfl
    have eM : Ed (part (Bp b) 16 4) = mnA (Bp b) := rfl
    simp only [Bool.false_eq_true, if_false]
    rw [eI] at i3
    rw [eM] at i4
    rw [eI, eM]
    by_cases c1 : Bp b = Mq (itA (Bp b)) (mnA (Bp b)) 0
    ·have c1' : Bp b = Mq (itA (Bp b)) (mnA (Bp b)) (0 : UInt64).toNat := c1
     rw [if_pos (by simpa using c1'), ba3 h hb c1]
     by_cases c2 : b.length < itA (Bp b) + 32
     ·rw [if_pos (by rw [Af]; simp; omega), if_pos c2]
     ·rw [if_neg (by rw [Af]; simp; omega), if_neg c2, Ag (by omega) (by omega)]; rfl
    ·have c1' : ¬ Bp b = Mq (itA (Bp b)) (mnA (Bp b)) (0 : UInt64).toNat := c1
     rw [if_neg (by simpa using c1'), Aa, Amr _ 2147483648 (by omega) (by omega) (by decide), Aa, hb]
     simp only [Bool.false_eq_true, if_false]
     rw [eI, eM]
     by_cases c2 : Bp b = Mq (itA (Bp b)) (mnA (Bp b)) 2147483648
     ·have c2' : Bp b = Mq (itA (Bp b)) (mnA (Bp b)) (2147483648 : UInt64).toNat := c2
      rw [if_neg (by simpa using c2'), Ag (by omega) (by omega)]
      by_cases c3 : b.length < itA (Bp b) + 64
      ·rw [if_pos (by rw [Af, Ac]; simp; omega), ba5 h hb c1 c2 c3]
      ·rw [if_neg (by rw [Af, Ac]; simp; omega), Ac, Bi (by omega) (by omega), Ag (by omega) (by omega), Ps (by omega) (by omega) (by omega), Aa, Ay5 _ _ _ i3 i4 (by decide), Aa, Gj, Aa, ba6 h hb c1 c2 c3]
       rw [show ((b.length : Int) - (((itA (Bp b) : Nat) : Int) + 64)).toNat = b.length - (itA (Bp b) + 64) by omega, show ((b.length : Int) - (((itA (Bp b) : Nat) : Int) + 64) + 32).toNat = b.length - (itA (Bp b) + 64) + 32 by omega]
       have e7 : (2684354560 : UInt64).toNat = 2684354560 := rfl
       rw [e7]
       by_cases c4 : (b.take (b.length - (itA (Bp b) + 64) + 32)).drop (b.length - (itA (Bp b) + 64)) = Mq (itA (Bp b)) (mnA (Bp b)) 2684354560
       ·rw [if_neg (by simpa using c4), if_neg (fun e => e c4)]; rfl
       ·rw [if_pos (by simpa using c4), if_pos c4]
     ·have c2' : ¬ Bp b = Mq (itA (Bp b)) (mnA (Bp b)) (2147483648 : UInt64).toNat := c2
      rw [if_pos (by simpa using c2'), ba4 h hb c1 c2]
  ·rw [if_pos (by rw [Bool.not_eq_true', decide_eq_false_iff_not]; intro h; exact hp h.2), ba1 (fun h => hp h.2)]
 ·rw [if_pos (by rw [Ac, Bi (by omega) (by omega), Af]; simp; omega), ba1 (fun h => h32 h.1)]
theorem Bq1 {b : List UInt8} (h : 32 ≤ b.length) : (b.take (b.length - 32 + 8)).drop (b.length - 32) = (Bp b).take 8 := by
 rw [Bp, List.take_drop]
theorem Bpj (b : List UInt8) (hl : b.length < 4611686018427387904) : Uy b = some (Vh b) := by
 rw [Uy, Vx]
 by_cases h32 : 32 ≤ b.length
 ·obtain ⟨e1, e2⟩ := Bo5 h32 hl
  have hl3 := Bf5 h32
  rw [if_neg (by rw [Af, Ac]; simp; omega), e1, Ag (by omega) (by omega), Ps (by omega) (by omega) (by omega), Aa, show ((b.length - 32 : Nat) : Int).toNat = b.length - 32 from rfl, show (((b.length - 32 : Nat) : Int) + 8).toNat = b.length - 32 + 8 by omega, Bq1 h32]
  by_cases hp : (Bp b).take 8 = APE
  ·have h := And.intro h32 hp
   rw [if_neg (by simpa [APE] using hp), Vm, Nf, e1, e2, Aa, Bgf _ (by omega) (by omega), Aa]
   cases hb : Aas (Bp b) with
   | true => rw [ba2 h hb]; rfl
   | false =>
    obtain ⟨i1, i2, i3, i4⟩ := Ato (Bp b) (by omega) hb
    have eI : Ed (part (Bp b) 12 4) - 32 = itA (Bp b) := rfl
    have eM : Ed (part (Bp b) 16 4) = mnA (Bp b) := rfl
    simp only [Bool.false_eq_true, if_false, Bool.not_true]
    rw [eI] at i3
    rw [eM] at i4
    rw [eI, eM, Dw, if_pos rfl, Asf _ _ _ i3 i4 (by decide), Aa, Aa]
    have e7 : (2147483648 : UInt64).toNat = 2147483648 := rfl
    have e8 : (2684354560 : UInt64).toNat = 2684354560 := rfl
    rw [e7]
    by_cases c2 : Bp b = Mq (itA (Bp b)) (mnA (Bp b)) 2147483648
    ·have c1 : Bp b ≠ Mq (itA (Bp b)) (mnA (Bp b)) 0 := fun e => Buc (itA (Bp b)) (mnA (Bp b)) (e.symm.trans c2)
     rw [if_neg (by simpa using c2), Nd, Ni, if_pos (by simpa using c2), Mv, Vp, Ag (a := 32) (by omega) (by omega), Ag (by omega) (by omega)]
     by_cases c3 : b.length < itA (Bp b) + 64
     ·rw [if_pos (by rw [Af, Ac]; simp; omega), ba5 h hb c1 c2 c3]
     ·rw [if_neg (by rw [Af, Ac]; simp; omega), if_pos (by simpa using c2), Ac, Bi (by omega) (by omega), Ag (by omega) (by omega), Ps (by omega) (by omega) (by omega), Aa, Nn, Asf _ _ _ i3 i4 (by decide), Aa, Aa, ba6 h hb c1 c2 c3, e8]
      rw [show ((b.length : Int) - (32 + ((itA (Bp b) : Nat) : Int) + 32)).toNat = b.length - (itA (Bp b) + 64) by omega, show ((b.length : Int) - (32 + ((itA (Bp b) : Nat) : Int) + 32) + 32).toNat = b.length - (itA (Bp b) + 64) + 32 by omega]
      by_cases c4 : (b.take (b.length - (itA (Bp b) + 64) + 32)).drop (b.length - (itA (Bp b) + 64)) = Mq (itA (Bp b)) (mnA (Bp b)) 2684354560
      ·rw [if_neg (by simpa using c4), if_neg (fun e => e c4), show (32 + ((itA (Bp b) : Nat) : Int) + 32) = ((itA (Bp b) + 64 : Nat) : Int) by omega]
      ·rw [if_pos (by simpa using c4), if_pos c4]
    ·rw [if_pos (by simpa using c2), Dw, if_neg (by simp), Asf _ _ _ i3 i4 (by decide), Aa, Aa]
     have e9 : (0 : UInt64).toNat = 0 := rfl
     rw [e9]
     by_cases c1 : Bp b = Mq (itA (Bp b)) (mnA (Bp b)) 0
     ·rw [if_neg (by simpa using c1), Nd, Ni, if_neg (by simpa using c2), Mv, Vp, Ag (by omega) (by omega), ba3 h hb c1, if_neg (c := (Bp b == Mq (itA (Bp b)) (mnA (Bp b)) 2147483648) = true) (by simpa using c2)]
      by_cases c3 : b.length < itA (Bp b) + 32
      ·rw [if_pos (by rw [Af, Ac]; simp; omega), if_pos c3]
      ·rw [if_neg (by rw [Af, Ac]; simp; omega), if_neg c3, show (32 + ((itA (Bp b) : Nat) : Int)) = ((itA (Bp b) + 32 : Nat) : Int) by omega]
     ·rw [if_pos (by simpa using c1), ba4 h hb c1 c2]
  ·rw [if_pos (by simpa [APE] using hp), ba1 (fun h => hp h.2)]
 ·rw [if_pos (by rw [Af, Ac]; simp; omega), ba1 (fun h => h32 h.1)]
def Bk4 : Nat → List UInt8 → Nat → Int × Int
 | 0, _, _ => (0, 38)
 | j + 1, b, a => if b = [] then ((a : Int), 0) else if (Vh b).2 ≠ 0 then (0, 38) else Bk4 j (b.take (b.length - (Vh b).1.toNat)) (a + 1)
theorem Bew : ∀ (j q a : Nat) (b : List UInt8), b.length < j → j ≤ q → b.length ≤ 4000 → a + b.length ≤ 4000 → Sp q (a : Int) b = some (Bk4 j b a)
 | 0, _, _, _, h, _, _, _ => by omega
 | j + 1, q + 1, a, b, h, hq, h4, ha => by
  rw [Sp, Afw, Bk4]
  by_cases hb : b = []
  ·subst hb; rw [if_neg (by decide), if_pos rfl]; rfl
  ·have hpos : 0 < b.length := List.length_pos_iff.2 hb
   rw [if_pos (by rw [Ax, Ac]; simp; omega), if_neg hb, Blw b (by omega), Aa]
   have hbad := Blc (b := b)
   have hok := fun n => Beu (b := b) (n := n)
   generalize Vh b = v at *
   obtain ⟨n, e⟩ := v
   simp only at hbad ⊢
   rw [Adx, Adq]
   by_cases he : e ≠ 0
   ·rw [if_pos he, hbad he, if_pos (by decide)]
   ·obtain ⟨k1, k2⟩ := hok n (by rw [show e = 0 by simpa using he])
    rw [if_neg he, if_neg (by rw [Bg]; simp; omega), Ac, Bi (by omega) (by omega), Jo (by omega) (by omega), Aa, Adh, Ald, Ag (by omega) (by omega)]
    rw [show ((b.length : Int) - n).toNat = b.length - n.toNat by omega]
    have ih := Bew j q (a + 1) (b.take (b.length - n.toNat)) (by rw [List.length_take]; omega) (by omega) (by rw [List.length_take]; omega) (by rw [List.length_take]; omega)
    rw [← ih]; rfl
theorem Bkr : ∀ (j q a : Nat) (b : List UInt8), b.length < j → j ≤ q → b.length ≤ 4000 → a + b.length ≤ 4000 → Ha q b (a : Int) = some (Bk4 j b a)
 | 0, _, _, _, h, _, _, _ => by omega
 | j + 1, q + 1, a, b, h, hq, h4, ha => by
  rw [Ha, Rj, Bk4]
  by_cases hb : b = []
  ·subst hb; rw [if_neg (by decide), if_pos rfl]; rfl
  ·have hpos : 0 < b.length := List.length_pos_iff.2 hb
   rw [if_pos (by rw [Ax, Ac]; simp; omega), if_neg hb, Bpj b (by omega), Aa]
   have hok := fun n => Beu (b := b) (n := n)
   generalize Vh b = v at *
   obtain ⟨n, e⟩ := v
   simp only
   by_cases he : e ≠ 0
   ·rw [if_pos he, if_pos (by rw [Ah]; simpa using he)]
   ·obtain ⟨k1, k2⟩ := hok n (by rw [show e = 0 by simpa using he])
    rw [if_neg he, if_neg (by rw [Ah]; simpa using he), Ac, Bi (by omega) (by omega), Jo (by omega) (by omega), Aa, Ag (by omega) (by omega)]
    rw [show ((b.length : Int) - n).toNat = b.length - n.toNat by omega]
    have ih := Bkr j q (a + 1) (b.take (b.length - n.toNat)) (by rw [List.length_take]; omega) (by omega) (by rw [List.length_take]; omega) (by rw [List.length_take]; omega)
    rw [← ih]; rfl
def Ami (b : List UInt8) : Int × Int := if 4000 < b.length then (0, 38) else Bk4 (b.length + 1) b 0
theorem Bf8 (b : List UInt8) (hl : b.length < 4611686018427387904) : Agq b = some (Ami b) := by
 rw [Agq, Afy, Ami]
 by_cases h : 4000 < b.length
 ·rw [if_pos (by rw [Ax, Ac]; simp; omega), if_pos h]
 ·rw [if_neg (by rw [Ax, Ac]; simp; omega), if_neg h]
  exact Bew _ Az 0 b (by omega) (by have := Am; omega) (by omega) (by omega)
theorem Bhg (b : List UInt8) (hl : b.length < 4611686018427387904) : Pc b = some (Ami b) := by
 rw [Pc, Rb, Ami]
 by_cases h : 4000 < b.length
 ·rw [if_pos (by rw [Ax, Ac]; simp; omega), if_pos h]
 ·rw [if_neg (by rw [Ax, Ac]; simp; omega), if_neg h]
  exact Bkr _ Az 0 b (by omega) (by have := Am; omega) (by omega) (by omega)
end Go.Pl
set_option linter.unusedVariables false
set_option linter.unusedSimpArgs false
namespace Go.Pl
open Go Go.Lv
theorem Bud {a b : Nat} (h : a < 9223372036854775808) : Df (a : Int) (b : Int) = ((a / b : Nat) : Int) := by
 have : a / b ≤ a := Nat.div_le_self _ _
 rw [Afp, Int.tdiv_eq_ediv_of_nonneg (by omega), ← Int.natCast_ediv]
 generalize a / b = k at *
 exact Cc (by omega) (by omega)
theorem Auh {bits : Int} (h : Dp bits) (x : Int) : (Adm bits x).length = wB bits := by
 obtain rfl | rfl | rfl := h <;> rfl
theorem Aov {bits : Int} (h : Dp bits) : ∀ l : List Int32, (bytesB bits l).length = l.length * wB bits
 | [] => by simp [bytesB]
 | x :: l => by
  have h1 := Aov h l
  have h2 := Auh h x.toInt
  simp only [bytesB, List.flatMap_cons, List.length_append, List.length_cons, Nat.succ_mul] at *
  omega
def segF (b : List UInt8) (A : Nat) (l : List Int) (k : Nat) : List UInt8 := (b.take ((A : Int) + (l.take (k + 1)).sum).toNat).drop ((A : Int) + (l.take k).sum).toNat
structure Gts (b p : List UInt8) (f c w r n A : Nat) (l : List Int) (k m : Nat) (x : List Int32) (s : List UInt8) (e : Int) : Prop where
 mom : getI (framesL (longN r) n) (k : Int) = some (m : Int)
 pos : 1 ≤ m ∧ m * c ≤ 4000
 got : cadenzaref40_Got b p (f : Int) (c : Int) (w : Int) (r : Int) (n : Int) (A : Int) l (k : Int) = some (s, e)
 none' : e ≠ 0 → s = [] ∧ x = []
 some' : e = 0 → s = bytesB (w : Int) x ∧ x.length = m * c ∧ cadenzaref18_Check (w : Int) x = some 0 ∧ width_Bytes (w : Int) x = some (s, 0) ∧ (A : Int) + (l.take (k + 1)).sum ≤ b.length
 way : ((b.length : Int) < (A : Int) + (l.take (k + 1)).sum ∧ e = 24) ∨ ((A : Int) + (l.take (k + 1)).sum ≤ b.length ∧ deframe_Decode (c : Int) (w : Int) (tapsOf p) (m : Int) (segF b A l k) = some (x, e) ∧ cadenzaref21_Decode (c : Int) (w : Int) (tapsOf p) (m : Int) (segF b A l k) = some (x, e))
theorem Ak0 {b p : List UInt8} {f c w r n A : Nat} {l : List Int} (o : Opn b p f c w r n A l) (k : Nat) (hk : k < l.length) : ∃ m x s e, Gts b p f c w r n A l k m x s e := by
 obtain ⟨hc, hw, hr, hn, _⟩ := Yj o.shape
 have hfit : n ≤ 4000 / c := by have := o.fit; simp only [fitB, decide_eq_true_eq] at this; exact this.1
 have hn4 : n ≤ 4000 := by have := Nat.div_le_self 4000 c; omega
 have hA := o.at'
 have hfile := o.file
 have hlen := o.len
 have b1 := Eb o.five k
 have b2 := Eb o.five (k + 1)
 have e := Gz hk
 have h5 := o.five l[k] (List.getElem_mem _)
 have hsum := o.sum
 have hs1 := o.some1
 have hkf : k < (framesL (longN r) n).length := by omega
 obtain ⟨m, hm, m1, m2⟩ := Ar1 (Ag5 r) hn (List.getElem_mem hkf)
 have hmom : getI (framesL (longN r) n) (k : Int) = some (m : Int) := by rw [Cp hkf, hm]
 have hpos : 1 ≤ m ∧ m * c ≤ 4000 := by
  refine ⟨m1, ?_⟩
  have := Nat.mul_le_mul_right c (Nat.le_trans m2 hfit)
  have := Nat.div_mul_le_self 4000 c
  omega
 have hR : cadenzaref40_Got b p (f : Int) (c : Int) (w : Int) (r : Int) (n : Int) (A : Int) l (k : Int) = cadenzaref40_Got b p (f : Int) (c : Int) (w : Int) (r : Int) (n : Int) (A : Int) l (k : Int) := rfl
 conv at hR => rhs; rw [cadenzaref40_Got, Kc, Ats hs1.2 o.five o.sum _ _ _ _ _ (A : Int) (by omega) (by omega) k (by omega), Aa, Cp hk, Aa, Bi (by rw [Ac]; omega) (by rw [Ac]; omega)]
 by_cases hto : (b.length : Int) < (A : Int) + (l.take (k + 1)).sum
 ·rw [if_pos (by rw [Af, Ac, decide_eq_true_eq]; omega)] at hR
  exact ⟨m, [], [], 24, hmom, hpos, hR, fun _ => ⟨rfl, rfl⟩, fun h => by simp at h, .inl ⟨hto, rfl⟩⟩
 ·rw [if_neg (by rw [Af, Ac, decide_eq_true_eq]; omega), Azz p o.pass, Ah1 hr.2 hn hn4] at hR
  simp only [Aa] at hR
  rw [Ag (a := (A : Int) + (l.take k).sum) (b := l[k]) (by omega) (by omega), Int.add_assoc, ← e, hmom] at hR
  simp only [Aa] at hR
  rw [Ps (by omega) (by omega) (by omega), Aa] at hR
  obtain ⟨x, er, g1, g2, g3, g4⟩ := Aut (ch := c) (n := m) (t := tapsOf p) (segF b A l k) hw (Awv p) hc.1 hc.2 m1 (by omega)
  rw [show (b.take ((A : Int) + (l.take (k + 1)).sum).toNat).drop ((A : Int) + (l.take k).sum).toNat = segF b A l k from rfl, g2, Aa] at hR
  simp only at hR
  rw [Po, Xx] at hR
  by_cases her : er = 0
  ·obtain ⟨g5, g6, g7⟩ := g3 her
   rw [if_neg (by rw [Ah]; simpa using her), Baz hw g6 g5, Aa] at hR
   subst her
   exact ⟨m, x, _, 0, hmom, hpos, hR, fun h => absurd rfl h, fun _ => ⟨rfl, g7, g5, Az3 hw g6 g5, by omega⟩, .inr ⟨by omega, g1, g2⟩⟩
  ·rw [if_pos (by rw [Ah]; simpa using her)] at hR
   exact ⟨m, x, _, er, hmom, hpos, hR, fun h => ⟨rfl, g4 h⟩, fun h => absurd h her, .inr ⟨by omega, g1, g2⟩⟩
theorem Gts.len {b p : List UInt8} {f c w r n A : Nat} {l : List Int} {k m : Nat} {x : List Int32} {s : List UInt8} {e : Int} (hw : Dp (w : Int)) (g : Gts b p f c w r n A l k m x s e) : s.length ≤ 12000 ∧ x.length ≤ 4000 ∧ (e = 0 → s.length = m * c * wB (w : Int)) := by
 by_cases he : e = 0
 ·obtain ⟨h1, h2, _⟩ := g.some' he
  have h3 := Amw (w : Int) x
  have h4 := Aov hw x
  have h5 := g.pos
  rw [← h1] at h3 h4
  refine ⟨by omega, by omega, fun _ => by rw [h4, h2]⟩
 ·obtain ⟨h1, h2⟩ := g.none' he
  exact ⟨by simp [h1], by simp [h2], fun h => absurd h he⟩
def At6 (b p : List UInt8) (f c w r n A : Nat) (l : List Int) (k : Nat) : List UInt8 × Int := (cadenzaref40_Got b p (f : Int) (c : Int) (w : Int) (r : Int) (n : Int) (A : Int) l (k : Int)).getD ([], 0)
theorem Gts.eq {b p : List UInt8} {f c w r n A : Nat} {l : List Int} {k m : Nat} {x : List Int32} {s : List UInt8} {e : Int} (g : Gts b p f c w r n A l k m x s e) : At6 b p f c w r n A l k = (s, e) := by rw [At6, g.got]; rfl
def Bl0 (b : List UInt8) (A : Nat) (l : List Int) : Int := (Ami (b.drop ((A : Int) + l.sum).toNat)).2
section
variable {b p : List UInt8} {f c w r n A : Nat} {l : List Int} (o : Opn b p f c w r n A l)
include o
end
end Go.Pl
set_option linter.unusedVariables false
set_option linter.unusedSimpArgs false
namespace Go.Pl
open Go Go.Lv
def by' (b : List UInt8) (k : Nat) : Nat := (b.getD k 0).toNat
def sx (n : Nat) (b : List UInt8) (a : Nat) : Int :=
 if n = 1 then (by' b a : Int) - 128 else
 if n = 2 then (if by' b a + 256 * by' b (a + 1) < 32768 then (by' b a + 256 * by' b (a + 1) : Nat) else ((by' b a + 256 * by' b (a + 1) : Nat) : Int) - 65536) else
 (if by' b a + 256 * by' b (a + 1) + 65536 * by' b (a + 2) < 8388608 then (by' b a + 256 * by' b (a + 1) + 65536 * by' b (a + 2) : Nat) else ((by' b a + 256 * by' b (a + 1) + 65536 * by' b (a + 2) : Nat) : Int) - 16777216)
def sxs (n m : Nat) (b : List UInt8) : List Int32 := (List.range m).map fun x => Int32.ofInt (sx n b (x * n))
theorem Bsp (n m : Nat) (b : List UInt8) : (sxs n m b).length = m := by simp [sxs]
theorem sx2 (b : List UInt8) (a : Nat) : sx 2 b a = if by' b a + 256 * by' b (a + 1) < 32768 then ((by' b a + 256 * by' b (a + 1) : Nat) : Int) else ((by' b a + 256 * by' b (a + 1) : Nat) : Int) - 65536 := rfl
theorem sx3 (b : List UInt8) (a : Nat) : sx 3 b a = if by' b a + 256 * by' b (a + 1) + 65536 * by' b (a + 2) < 8388608 then ((by' b a + 256 * by' b (a + 1) + 65536 * by' b (a + 2) : Nat) : Int) else ((by' b a + 256 * by' b (a + 1) + 65536 * by' b (a + 2) : Nat) : Int) - 16777216 := rfl
variable (b : List UInt8)
end Go.Pl
set_option linter.unusedVariables false
set_option linter.unusedSimpArgs false
namespace Go.Pl
open Go Go.Lv
theorem Bte {c : Nat} {w : Nat} (hc : c ≤ 6) (hw : Dp (w : Int)) : Df (Be (c : Int) (w : Int)) 8 = ((c * wB (w : Int) : Nat) : Int) := by
 have h : w = 8 ∨ w = 16 ∨ w = 24 := by unfold Dp at hw; omega
 have : c = 0 ∨ c = 1 ∨ c = 2 ∨ c = 3 ∨ c = 4 ∨ c = 5 ∨ c = 6 := by omega
 rcases h with rfl | rfl | rfl <;> rcases this with rfl | rfl | rfl | rfl | rfl | rfl | rfl <;> rfl
theorem Bup {w : Nat} (hw : Dp (w : Int)) : 8 * wB (w : Int) = w ∧ w ≤ 24 := by
 have h : w = 8 ∨ w = 16 ∨ w = 24 := by unfold Dp at hw; omega
 rcases h with rfl | rfl | rfl <;> exact ⟨rfl, by omega⟩
theorem Buk {t c w : Nat} (ht : t ≤ 4000) (hc : c ≤ 6) (hw : Dp (w : Int)) : Df (Be (Be (t : Int) (c : Int)) (w : Int)) 8 = ((t * (c * wB (w : Int)) : Nat) : Int) := by
 obtain ⟨h1, h2⟩ := Bup hw
 have e1 : (t : Int) * (c : Int) = ((t * c : Nat) : Int) := by simp
 have b1 : t * c ≤ 4000 * 6 := Nat.mul_le_mul ht hc
 have b2 : t * c * w ≤ 24000 * 24 := Nat.mul_le_mul b1 h2
 rw [Gu (a := (t : Int)) (by rw [e1]; omega) (by rw [e1]; omega), e1, Gu (by rw [← Int.natCast_mul]; omega) (by rw [← Int.natCast_mul]; omega), ← Int.natCast_mul, show (8 : Int) = ((8 : Nat) : Int) from rfl, Bud (by omega)]
 congr 1
 generalize wB (w : Int) = W at *
 subst h1
 rw [Nat.mul_left_comm, Nat.mul_div_cancel_left _ (by omega), Nat.mul_assoc]
section
variable {b p : List UInt8} {f c w r n A : Nat} {l : List Int} (o : Opn b p f c w r n A l)
include o
end
end Go.Pl
set_option linter.unusedVariables false
set_option linter.unusedSimpArgs false
namespace Go.Pl
open Go Go.Lv
section
variable {b p : List UInt8} {f c w r n A : Nat} {l : List Int} (o : Opn b p f c w r n A l)
include o
theorem Blo {k m : Nat} {x : List Int32} {s : List UInt8} {e : Int} (hk : k < l.length) (g : Gts b p f c w r n A l k m x s e) : Aat b p (k : Int) = some (s, e) := by
 obtain ⟨y, h1, h2⟩ := Ble o k hk
 rw [Bd9 o, h1, ← g.got, h2]
end
def smF (w : Nat) (y : List UInt8 × Int) : List Int32 := if y.2 ≠ 0 then [] else sxs (wB (w : Int)) (y.1.length / wB (w : Int)) y.1
section
variable {b p : List UInt8} {f c w r n A : Nat} {l : List Int} (o : Opn b p f c w r n A l)
include o
end
end Go.Pl
set_option linter.unusedVariables false
set_option linter.unusedSimpArgs false
namespace Go.Pl
open Go Go.Lv
theorem Aub (z : Int) : (u8 z).toNat = (z % 256).toNat := by
 have : (z % 256).toNat < 256 := by omega
 rw [u8, UInt8.toNat_ofNat', Nat.mod_eq_of_lt (by omega)]
theorem Axd {bits : Int} (h : Dp bits) : ∀ (l : List Int32) (i j : Nat), i < l.length → j < wB bits → (bytesB bits l).getD (i * wB bits + j) 0 = (Adm bits (l.getD i 0).toInt).getD j 0
 | [], i, j, hi, _ => by simp at hi
 | x :: l, 0, j, _, hj => by
  have h1 := Auh h x.toInt
  have e : bytesB bits (x :: l) = Adm bits x.toInt ++ bytesB bits l := by simp [bytesB]
  rw [e, Nat.zero_mul, Nat.zero_add, List.getD_eq_getElem?_getD, List.getD_eq_getElem?_getD, List.getElem?_append_left (by omega)]; rfl
 | x :: l, i + 1, j, hi, hj => by
  have h1 := Auh h x.toInt
  have e : bytesB bits (x :: l) = Adm bits x.toInt ++ bytesB bits l := by simp [bytesB]
  have ih := Axd h l i j (by simpa using hi) hj
  have e2 : (i + 1) * wB bits + j = (Adm bits x.toInt).length + (i * wB bits + j) := by rw [Nat.add_mul, Nat.one_mul, h1]; omega
  rw [e, e2, List.getD_eq_getElem?_getD, List.getElem?_append_right (by omega), Nat.add_sub_cancel_left, ← List.getD_eq_getElem?_getD, ih]; rfl
theorem Bru {bits : Int} (h : Dp bits) (l : List Int32) (hr : inR bits l) (i : Nat) (hi : i < l.length) : Int32.ofInt (sx (wB bits) (bytesB bits l) (i * wB bits)) = l.getD i 0 := by
 have hm : l.getD i 0 ∈ l := by rw [List.getD_eq_getElem?_getD, List.getElem?_eq_getElem hi]; exact List.getElem_mem hi
 have hv := hr _ hm
 have g : ∀ j, j < wB bits → by' (bytesB bits l) (i * wB bits + j) = ((Adm bits (l.getD i 0).toInt).getD j 0).toNat := fun j hj => by rw [by', Axd h l i j hi hj]
 generalize l.getD i 0 = x at *
 have key : sx (wB bits) (bytesB bits l) (i * wB bits) = x.toInt := by
  generalize hA : i * wB bits = a at *
  obtain rfl | rfl | rfl := h
  ·have g0 := g 0 (by decide)
   have e1 : (Adm 8 x.toInt).getD 0 0 = u8 (x.toInt + 128) := rfl
   rw [Nat.add_zero, e1, Aub] at g0
   simp only [hB] at hv
   simp at hv
   have e2 : wB 8 = 1 := rfl
   rw [e2, sx, if_pos rfl, g0]; omega
  ·have g0 := g 0 (by decide)
   have g1 := g 1 (by decide)
   have e0 : (Adm 16 x.toInt).getD 0 0 = u8 x.toInt := rfl
   have e1 : (Adm 16 x.toInt).getD 1 0 = u8 (x.toInt / 256) := rfl
   rw [Nat.add_zero, e0, Aub] at g0
   rw [e1, Aub] at g1
   simp only [hB] at hv
   simp at hv
   have e2 : wB 16 = 2 := rfl
   rw [e2, sx2, g0, g1]
   split <;> omega
  ·have g0 := g 0 (by decide)
   have g1 := g 1 (by decide)
   have g2 := g 2 (by decide)
   have e0 : (Adm 24 x.toInt).getD 0 0 = u8 x.toInt := rfl
   have e1 : (Adm 24 x.toInt).getD 1 0 = u8 (x.toInt / 256) := rfl
   have e3 : (Adm 24 x.toInt).getD 2 0 = u8 (x.toInt / 65536) := rfl
   rw [Nat.add_zero, e0, Aub] at g0
   rw [e1, Aub] at g1
   rw [e3, Aub] at g2
   simp only [hB] at hv
   simp at hv
   have e2 : wB 24 = 3 := rfl
   rw [e2, sx3, g0, g1, g2]
   split <;> omega
 rw [key]; simp
theorem Bpc {bits : Int} (h : Dp bits) (l : List Int32) (hr : inR bits l) : sxs (wB bits) l.length (bytesB bits l) = l := by
 refine List.ext_getElem (Bsp _ _ _) fun i h1 h2 => ?_
 have := Bru h l hr i h2
 simp only [sxs, List.getElem_map, List.getElem_range]
 rw [this, List.getD_eq_getElem?_getD, List.getElem?_eq_getElem h2]; rfl
theorem Gts.smp {b p : List UInt8} {f c w r n A : Nat} {l : List Int} {k m : Nat} {x : List Int32} {s : List UInt8} {e : Int} (hw : Dp (w : Int)) (g : Gts b p f c w r n A l k m x s e) : smF w (s, e) = x := by
 have hwb := Bjo (w : Int)
 by_cases he : e = 0
 ·obtain ⟨h1, h2, h3, _⟩ := g.some' he
  have h4 := g.pos
  have h5 := Aov hw x
  rw [smF, if_neg (by simpa using he)]
  simp only
  rw [h1, h5, Nat.mul_div_cancel _ (by omega)]
  exact Bpc hw x (Auo hw (by omega) h3)
 ·rw [smF, if_pos he, (g.none' he).2]
end Go.Pl
set_option linter.unusedVariables false
set_option linter.unusedSimpArgs false
namespace Go.Pl
open Go Go.Lv
abbrev C5 := Int × Int × Int × List Int32 × Int
def Asw (e : Int) : C5 := (0, 0, 0, [], e)
theorem Bd2 {seg p : List UInt8} (hs : seg.length = 8) (hp : p.length ≤ 64) : Xc seg p = some (seg == leB (Ac8 p).toNat 8, 0) := by
 rw [Xc, Bbc p hp, Aa]
 simp only
 rw [if_neg (by rw [Ah, Ah, Ac, Ac, Nm, hs]; simp), Gj, Aa]
theorem Bsq (b p : List UInt8) (m c w h o q n g y ab : Int) (k v : List Int) {e : Int} (he : e ≠ 0) : Kx b p m c w h o q n g k e y ab v = some (Asw e) := by
 rw [Kx, Aa7, if_pos (by rw [Ah]; simpa using he)]; rfl
theorem Av1 (b p : List UInt8) (m c w h o q n g y ab : Int) (k : List Int) {e : Int} (he : e ≠ 0) : Pv b p m c w h o q n g y ab k e = some (Asw e) := by
 rw [Pv, Abl, if_pos (by rw [Ah]; simpa using he)]; rfl
theorem Bo9 (b p : List UInt8) (m c w h o q n g y ab : Int) (k : List Int) : Pv b p m c w h o q n g y ab k 0 = Wb b p m c w h o q n g y ab k := by
 rw [Pv, Abl, if_neg (by rw [Ah]; simp)]
def Baa (X : Nat → List Int32) (E : Nat → Int) (be : Int) : Nat → Nat → List Int32 → List Int32 × Int
 | 0, _, acc => if be ≠ 0 then ([], 38) else (acc, 0)
 | j + 1, k, acc => if E k ≠ 0 then ([], E k) else Baa X E be j (k + 1) (acc ++ X k)
def Ant (c w r : Nat) (y : List Int32 × Int) : C5 := if y.2 ≠ 0 then Asw y.2 else ((c : Int), (w : Int), (r : Int), y.1, 0)
def Azc (b p : List UInt8) (f c w r n A : Nat) (l : List Int) : C5 :=
 Ant c w r (Baa (fun k => smF w (At6 b p f c w r n A l k)) (fun k => (At6 b p f c w r n A l k).2) (Bl0 b A l) l.length 0 [])
section
variable {b p : List UInt8} {f c w r n A : Nat} {l : List Int} (o : Opn b p f c w r n A l)
include o
theorem Ba6 (a1 a2 a3 a4 : Int) : ∀ (j k q : Nat) (acc : List Int32), k + j = l.length → j < q → (k = l.length → (A : Int) + l.sum ≤ b.length) → acc.length ≤ 4000 * k →
  Qd b l (f : Int) (c : Int) (w : Int) (r : Int) (n : Int) a1 a2 a3 (A : Int) a4 (tapsOf p) (framesL (longN r) n) q ((A : Int) + (l.take k).sum) (k : Int) acc =
   some (Ant c w r (Baa (fun k => smF w (At6 b p f c w r n A l k)) (fun k => (At6 b p f c w r n A l k).2) (Bl0 b A l) j k acc))
 | 0, k, q + 1, acc, hk, _, hfit, _ => by
  have hA := o.at'
  have hfile := o.file
  have hs1 := o.some1
  have hsum := o.sum
  have b1 := Eb o.five l.length
  have hf := hfit (by omega)
  obtain rfl : k = l.length := by omega
  rw [List.take_length] at b1 ⊢
  rw [Qd, Ab9, if_neg (by rw [Af, Ac]; simp), Ahw, Apg, Gi (by omega) (by omega), Aa, Bf8 _ (by rw [List.length_drop]; omega), Aa, Baa, Bl0]
  generalize Ami (b.drop ((A : Int) + l.sum).toNat) = v
  obtain ⟨v1, v2⟩ := v
  simp only
  by_cases hv : v2 ≠ 0
  ·rw [if_pos hv, if_pos (by rw [Ah]; simpa using hv), Ant, if_pos (by simp)]; rfl
  ·rw [if_neg hv, if_neg (by rw [Ah]; simpa using hv), Ant, if_neg (by simp)]
 | j + 1, k, q + 1, acc, hk, hq, hfit, hacc => by
  have hA := o.at'
  have hfile := o.file
  have hs1 := o.some1
  have hsum := o.sum
  have b1 := Eb o.five k
  have b2 := Eb o.five (k + 1)
  have hkl : k < l.length := by omega
  have e2 := Gz hkl
  have h5 := o.five l[k] (List.getElem_mem _)
  obtain ⟨m, x, s, e, g⟩ := Ak0 o k hkl
  obtain ⟨hc, hw, hr, hn, _⟩ := Yj o.shape
  have hl := g.len hw
  rw [Qd, Ab9, if_pos (by rw [Af, Ac]; simp; omega), Cp hkl, Aa, Aa, Ag (a := (A : Int) + (l.take k).sum) (by omega) (by omega), Int.add_assoc, ← e2, Ac, Baa, g.eq]
  simp only
  rcases g.way with ⟨h1, h2⟩ | ⟨h1, h2, _⟩
  ·rw [if_pos (by rw [Af, decide_eq_true_eq]; omega), if_pos (by rw [h2]; simp), h2, Ant, if_pos (by simp)]; rfl
  ·rw [if_neg (by rw [Af, decide_eq_true_eq]; omega), g.mom]
   simp only [Aa]
   rw [Ps (by omega) (by omega) (by omega), Aa, show (b.take ((A : Int) + (l.take (k + 1)).sum).toNat).drop ((A : Int) + (l.take k).sum).toNat = segF b A l k from rfl, h2, Aa]
   simp only
   rw [Ah3, Apm]
   by_cases he : e ≠ 0
   ·rw [if_pos (by rw [Ah]; simpa using he), if_pos he, Ant, if_pos he]; rfl
   ·have he0 : e = 0 := by simpa using he
    have hfit2 := (g.some' he0).2.2.2.2
    rw [if_neg (by rw [Ah]; simpa using he), if_neg he, g.smp hw, Gt (by omega), Aa, Ag (a := (A : Int) + (l.take k).sum) (by omega) (by omega), Int.add_assoc, ← e2, Ag (by omega) (by omega)]
    exact Ba6 a1 a2 a3 a4 j (k + 1) q (acc ++ x) (by omega) (by omega) (fun h => by rw [h, List.take_length] at hfit2; exact hfit2) (by rw [List.length_append]; omega)
theorem Aq8 : ∀ (j k q : Nat) (acc : List Int32), k + j = l.length → j < q → (k = l.length → (A : Int) + l.sum ≤ b.length) → acc.length ≤ 4000 * k →
  Gh b (f : Int) (c : Int) (w : Int) (r : Int) (n : Int) l (framesL (longN r) n) (tapsOf p) q ((A : Int) + (l.take k).sum) (k : Int) acc =
   some (Ant c w r (Baa (fun k => smF w (At6 b p f c w r n A l k)) (fun k => (At6 b p f c w r n A l k).2) (Bl0 b A l) j k acc))
 | 0, k, q + 1, acc, hk, _, hfit, _ => by
  have hA := o.at'
  have hfile := o.file
  have hs1 := o.some1
  have hsum := o.sum
  have b1 := Eb o.five l.length
  have hf := hfit (by omega)
  obtain rfl : k = l.length := by omega
  rw [List.take_length] at b1 ⊢
  rw [Gh, Na, if_neg (by rw [Af, Ac]; simp), Um, Acn, Gi (by omega) (by omega), Aa, Bhg _ (by rw [List.length_drop]; omega), Aa, Baa, Bl0]
  generalize Ami (b.drop ((A : Int) + l.sum).toNat) = v
  obtain ⟨v1, v2⟩ := v
  simp only
  by_cases hv : v2 ≠ 0
  ·rw [if_pos hv, if_pos (by rw [Ah]; simpa using hv), Ant, if_pos (by simp)]; rfl
  ·rw [if_neg hv, if_neg (by rw [Ah]; simpa using hv), Ant, if_neg (by simp)]
 | j + 1, k, q + 1, acc, hk, hq, hfit, hacc => by
  have hA := o.at'
  have hfile := o.file
  have hs1 := o.some1
  have hsum := o.sum
  have b1 := Eb o.five k
  have b2 := Eb o.five (k + 1)
  have hkl : k < l.length := by omega
  have e2 := Gz hkl
  have h5 := o.five l[k] (List.getElem_mem _)
  obtain ⟨m, x, s, e, g⟩ := Ak0 o k hkl
  obtain ⟨hc, hw, hr, hn, _⟩ := Yj o.shape
  have hl := g.len hw
  rw [Gh, Na, if_pos (by rw [Af, Ac]; simp; omega), Cp hkl, Aa, Aa, Ac, Bi (by omega) (by omega), Baa, g.eq]
  simp only
  rcases g.way with ⟨h1, h2⟩ | ⟨h1, _, h2⟩
  ·rw [if_pos (by rw [Af, decide_eq_true_eq]; omega), if_pos (by rw [h2]; simp), h2, Ant, if_pos (by simp)]; rfl
  ·rw [if_neg (by rw [Af, decide_eq_true_eq]; omega), g.mom]
   simp only [Aa]
   rw [Ag (a := (A : Int) + (l.take k).sum) (by omega) (by omega), Int.add_assoc, ← e2, Ps (by omega) (by omega) (by omega), Aa, show (b.take ((A : Int) + (l.take (k + 1)).sum).toNat).drop ((A : Int) + (l.take k).sum).toNat = segF b A l k from rfl, h2, Aa]
   simp only
   rw [Ti, Aco]
   by_cases he : e ≠ 0
   ·rw [if_pos (by rw [Ah]; simpa using he), if_pos he, Ant, if_pos he]; rfl
   ·have he0 : e = 0 := by simpa using he
    have hfit2 := (g.some' he0).2.2.2.2
    rw [if_neg (by rw [Ah]; simpa using he), if_neg he, g.smp hw, Gt (by omega), Aa, Cp hkl, Aa, Aa, Ag (a := (A : Int) + (l.take k).sum) (by omega) (by omega), Int.add_assoc, ← e2, Ag (by omega) (by omega)]
    exact Aq8 j (k + 1) q (acc ++ x) (by omega) (by omega) (fun h => by rw [h, List.take_length] at hfit2; exact hfit2) (by rw [List.length_append]; omega)
end
theorem Ba2 (l : List Int) (b p : List UInt8) (m c w h o q n g : Int) (k : List Int) (hl : l.length ≤ 1000) (h5 : ∀ x ∈ l, 5 ≤ x) (A : Int) (hA : 0 ≤ A) (hb : A + l.sum ≤ 1000000) : ∀ (j i z : Nat), i + j = l.length → j < z → Qq l b p m c w h o q n g k z (i : Int) (A + (l.take i).sum) = Abw b p l m c w h o q n g (A + l.sum) k
 | 0, i, z + 1, hi, _ => by
  rw [Qq, Abn, if_neg (by rw [Af, Ac]; simp; omega), show i = l.length by omega, List.take_length]
 | j + 1, i, z + 1, hi, hz => by
  have hlt : i < l.length := by omega
  have b1 := Eb h5 i
  have b2 := Eb h5 (i + 1)
  have e := Gz hlt
  have ih := Ba2 l b p m c w h o q n g k hl h5 A hA hb j (i + 1) z (by omega) (by omega)
  rw [e, ← Int.add_assoc] at ih
  rw [Qq, Abn, if_pos (by rw [Af, Ac]; simp; omega), Cp hlt, Aa, Aa, Ag (by omega) (by omega), Ag (by omega) (by omega)]
  exact ih
theorem Bil (b p : List UInt8) (hb : b.length ≤ 100100) (hp : p.length ≤ 64) :
  (∃ e : Int, e ≠ 0 ∧ seekto_Open b p = some (Af7 e) ∧ Ky b p = some (Asw e) ∧ Dk b p = some (Asw e)) ∨
  (∃ f c w r n T : Nat, ∃ q d : Int, T ≤ b.length ∧ b.length ≤ 100000 ∧ shapeB f c w r n = true ∧ fitB c r n = true ∧
   seekto_Open b p = Lg b (f : Int) (c : Int) (w : Int) (r : Int) (n : Int) (T : Int) ∧
   Ky b p = Wb b p (f : Int) (c : Int) (w : Int) (r : Int) (n : Int) q d (T : Int) 0 0 (framesL (longN r) n) ∧
   Dk b p = (Ie b (T : Int) (f : Int) (c : Int) (w : Int) (r : Int) (n : Int)).bind fun (h, ae) => if Ck ae 0 = true then some (Asw ae) else (Bw (r : Int) (n : Int)).bind fun p2 => (Hi p).bind fun (u, ap) => Wc b (f : Int) (c : Int) (w : Int) (r : Int) (n : Int) h p2 u (Ae (T : Int) (Ae (Be 4 (Ac h)) 4)) 0 []) := by
 have hO : seekto_Open b p = seekto_Open b p := rfl
 have hV : Ky b p = Ky b p := rfl
 have hR : Dk b p = Dk b p := rfl
 conv at hO => rhs; rw [seekto_Open, Qk, if_neg (by rw [Ax, Ac]; simp; omega)]
 conv at hV => rhs; rw [Ky, Aec, if_neg (by rw [Ax, Ac]; simp; omega), Qw]
 conv at hR => rhs; rw [Dk, Nj, if_neg (by rw [Ax, Ac]; simp; omega), Cx]
 by_cases h1 : 100000 < b.length
 ·rw [if_pos (by rw [Ax, Ac]; simp; omega)] at hO hV hR
  refine .inl ⟨4, by omega, hO, ?_, ?_⟩
  ·rw [hV, Aa]; rfl
  ·rw [hR, Aa]; rfl
 rw [if_neg (by rw [Ax, Ac]; simp; omega)] at hO hV hR
 rw [Wr b (by omega), Aa] at hO hV
 rw [Xd b (by omega), Aa] at hR
 by_cases h2 : (frontS b).2 = 0
 ·obtain ⟨p0, p1, p2⟩ := Akw h2
  have hc := Gi (l := b) p0 p1
  simp only [h2] at hO hV hR
  rw [if_neg (by rw [Ah]; simp), hc, Aa, show b.drop (frontS b).1.toNat = hdr b from rfl] at hO hV hR
  rw [Al1 _ (by simp [hdr]; omega), Aa] at hO hV
  rw [Al0 _ (by simp [hdr]; omega), Aa] at hR
  by_cases h3 : (readS (hdr b)).2.2.2.2.2 = 0
  ·obtain ⟨g1, g2, g3, g4⟩ := Ahn h3
   have hlen : (hdr b).length = b.length - (frontS b).1.toNat := by simp [hdr]
   generalize hF : (frontS b).1.toNat = F at *
   have hF' : (frontS b).1 = (F : Int) := by omega
   rw [g1, hF'] at hO hV hR
   simp only at hO hV hR
   generalize f0 (hdr b) = f at *
   generalize f1 (hdr b) = c at *
   generalize f2 (hdr b) = w at *
   generalize f3 (hdr b) = r at *
   generalize f4 (hdr b) = n at *
   have t22 : Ae (F : Int) 22 = ((F + 22 : Nat) : Int) := by rw [Ag (by omega) (by omega)]; omega
   have t30 : Ae ((F + 22 : Nat) : Int) 8 = ((F + 30 : Nat) : Int) := by rw [Ag (by omega) (by omega)]; omega
   have hf12 : f = 1 ∨ f = 2 := by simp only [shapeB, decide_eq_true_eq] at g3; omega
   rw [if_neg (by rw [Ah]; simp), t22, t30] at hO
   rw [if_neg (by rw [Ah]; simp), Aei g3 g4, Aa, t22, t30] at hV
   rw [Aa] at hR
   simp only at hV hR
   rw [if_neg (by rw [Ah]; simp), t22, Xw, t30] at hR
   by_cases hpass : ((p == ([] : List UInt8)) != (geq (f : Int) (1 : Int))) = true
   ·rw [if_pos hpass] at hO hR
    refine .inl ⟨26, by omega, hO, ?_, ?_⟩
    ·rw [hV]
     by_cases h5 : f = 2
     ·rw [if_pos (by rw [Bg, h5]; rfl), Aa]
      simp only
      rw [if_neg (by rw [Ah]; simp), if_pos hpass, Av1 _ _ _ _ _ _ _ _ _ _ _ _ _ (by omega)]
     ·rw [if_neg (by rw [Bg]; simp; omega), Aa]
      simp only
      rw [if_neg (by rw [Ah]; simp), if_pos hpass, Av1 _ _ _ _ _ _ _ _ _ _ _ _ _ (by omega)]
    ·rw [hR, Aa]; rfl
   ·rw [if_neg hpass] at hO hR
    have hpf : (p = [] ↔ f = 1) := by
     rw [Bg] at hpass
     have h5 : (p == ([] : List UInt8)) = ((f : Int) == 1) := by simpa using hpass
     have h6 : (p == ([] : List UInt8)) = true ↔ ((f : Int) == 1) = true := by rw [h5]
     rw [beq_iff_eq, beq_iff_eq] at h6
     rw [h6]; omega
    by_cases h5 : f = 2
    ·have hpne : p ≠ [] := fun e => by have := hpf.1 e; omega
     rw [if_pos (by rw [Bg, h5]; rfl), Aa] at hV
     simp only at hV
     rw [if_neg (by rw [Ah]; simp), if_neg hpass, if_neg (by rw [Bg]; simp; omega)] at hV
     rw [if_pos (by simpa using hpne)] at hO
     rw [if_neg (by simpa using hpne)] at hR
     by_cases h6 : b.length < F + 30
     ·rw [if_pos (by rw [Af, Ac]; simp; omega)] at hO hV hR
      refine .inl ⟨24, by omega, hO, ?_, ?_⟩
      ·rw [hV, Av1 _ _ _ _ _ _ _ _ _ _ _ _ _ (by omega)]
      ·rw [hR, Aa]; rfl
     ·have hseg : ((b.take (F + 30)).drop (F + 22)).length = 8 := by simp; omega
      rw [if_neg (by rw [Af, Ac]; simp; omega), Ps (by omega) (by omega) (by omega), Aa, show ((F + 30 : Nat) : Int).toNat = F + 30 from rfl, show ((F + 22 : Nat) : Int).toNat = F + 22 from rfl] at hO hV hR
      rw [Bd2 hseg hp, Aa] at hO hV
      rw [Atz p hp, Aa] at hR
      simp only at hO hV
      rw [if_neg (by rw [Ah]; simp)] at hO
      generalize (b.take (F + 30)).drop (F + 22) = seg at *
      by_cases h7 : seg = leB (Ac8 p).toNat 8
      ·rw [if_neg (by simp [h7])] at hO hV
       rw [if_neg (by simp [h7]), Aa] at hR
       simp only at hR
       rw [if_neg (by rw [Ah]; simp)] at hR
       rw [Bo9] at hV
       exact .inr ⟨f, c, w, r, n, F + 30, (F : Int), ((F + 22 : Nat) : Int), by omega, by omega, g3, g4, hO, hV, hR⟩
      ·rw [if_pos (by simpa using h7)] at hO hV
       rw [if_pos (by simpa using h7)] at hR
       refine .inl ⟨26, by omega, hO, ?_, ?_⟩
       ·rw [hV, Av1 _ _ _ _ _ _ _ _ _ _ _ _ _ (by omega)]
       ·rw [hR, Aa]; rfl
    ·have hpe : p = [] := hpf.2 (by omega)
     rw [if_neg (by rw [Bg]; simp; omega), Aa] at hV
     simp only at hV
     rw [if_neg (by rw [Ah]; simp), if_neg hpass, if_pos (by rw [Bg]; simp; omega), Bo9] at hV
     rw [if_neg (by rw [hpe]; simp)] at hO
     rw [if_pos (by rw [hpe]; rfl), Aa] at hR
     simp only at hR
     rw [if_neg (by rw [Ah]; simp)] at hR
     exact .inr ⟨f, c, w, r, n, F + 22, (F : Int), ((F + 22 : Nat) : Int), by omega, by omega, g3, g4, hO, hV, hR⟩
  ·generalize readS (hdr b) = v at *
   obtain ⟨v1, v2, v3, v4, v5, v6⟩ := v
   simp only at h3 hO hV hR
   rw [if_pos (by rw [Ah]; simpa using h3)] at hO hV
   refine .inl ⟨v6, h3, hO, ?_, ?_⟩
   ·rw [hV, Aa]
    simp only
    rw [if_pos (by rw [Ah]; simpa using h3)]; rfl
   ·rw [hR, Aa]
    simp only
    rw [if_pos (by rw [Ah]; simpa using h3)]; rfl
 ·generalize frontS b = v at *
  obtain ⟨v, e⟩ := v
  simp only at h2 hO hV hR
  rw [if_pos (by rw [Ah]; simpa using h2)] at hO hV hR
  refine .inl ⟨e, h2, hO, ?_, ?_⟩
  ·rw [hV, Aa]
   simp only
   rw [if_pos (by rw [Ah]; simpa using h2)]; rfl
  ·rw [hR, Aa]
   simp only
   rw [if_pos (by rw [Ah]; simpa using h2)]; rfl
theorem Bjg (b p : List UInt8) (hb : b.length ≤ 100100) (hp : p.length ≤ 64) :
  (∃ e : Int, e ≠ 0 ∧ seekto_Open b p = some (Af7 e) ∧ cadenzaref40_Opened b p = some (Af7 e) ∧ Ky b p = some (Asw e) ∧ Dk b p = some (Asw e)) ∨
  (∃ f c w r n A l, Opn b p f c w r n A l ∧ Ky b p = some (Azc b p f c w r n A l) ∧ Dk b p = some (Azc b p f c w r n A l)) := by
 have hbadI : ∀ {e e2 : Int}, Af7 e = Af7 e2 → e = e2 := fun h => by simpa [Af7] using h
 rcases Bil b p hb hp with ⟨e, he, h1, h2, h3⟩ | ⟨f, c, w, r, n, T, q, d, hT, hfile, g3, g4, hO, hV, hR⟩
 ·rcases Awc b p hb hp with ⟨e', he', k1, k2⟩ | ⟨f, c, w, r, n, A, l, o⟩
  ·rw [h1] at k1
   have := hbadI (Option.some.inj k1)
   subst this
   exact .inl ⟨e, he, h1, k2, h2, h3⟩
  ·have := o.prog
   rw [h1] at this
   have := Option.some.inj this
   simp only [Af7, Prod.mk.injEq] at this
   exact absurd this.2.2.2.2.2.2.2 he
 ·obtain ⟨hc, hw, hr, hn, _⟩ := Yj g3
  have hfit : n ≤ 4000 / c := by simp only [fitB, decide_eq_true_eq] at g4; exact g4.1
  have hn4 : n ≤ 4000 := by have := Nat.div_le_self 4000 c; omega
  rw [Aun g3 g4 b hb T hT] at hO
  have hcut := Gi (l := b) (a := (T : Int)) (by omega) (by omega)
  rw [Int.toNat_natCast] at hcut
  have hdl : (b.drop T).length ≤ 100100 := by simp; omega
  rw [Wb, Ahl, if_neg (by rw [Af, Ac]; simp; omega), hcut, Aa, Ac, Atv _ _ hdl, Aa] at hV
  rw [Ie, hcut, Aa, Ah1 hr.2 hn hn4, Aa, Ac, Azo _ _ hdl, Aa, Aa] at hR
  by_cases h : (seekS (b.drop T) (framesL (longN r) n).length).2 ≠ 0
  ·rw [if_pos h] at hO
   generalize seekS (b.drop T) (framesL (longN r) n).length = v at *
   obtain ⟨v1, v2⟩ := v
   simp only at h hO hV hR
   rcases Awc b p hb hp with ⟨e', he', k1, k2⟩ | ⟨f, c, w, r, n, A, l, o⟩
   ·rw [hO] at k1
    have := hbadI (Option.some.inj k1)
    subst this
    refine .inl ⟨_, h, hO, k2, ?_, ?_⟩
    ·rw [hV, Abf, Aay, if_pos (by rw [Ah]; simpa using h), Bsq _ _ _ _ _ _ _ _ _ _ _ _ _ _ h]
    ·rw [hR, if_pos (by rw [Ah]; simpa using h)]
   ·have := o.prog
    rw [hO] at this
    have := Option.some.inj this
    simp only [Af7, Prod.mk.injEq] at this
    exact absurd this.2.2.2.2.2.2.2 h
  ·have h0 : (seekS (b.drop T) (framesL (longN r) n).length).2 = 0 := by simpa using h
   rw [if_neg h] at hO
   generalize hsv : seekS (b.drop T) (framesL (longN r) n).length = v at *
   obtain ⟨v1, v2⟩ := v
   simp only at h0 hO hV hR
   subst h0
   rcases Awc b p hb hp with ⟨e', he', k1, k2⟩ | ⟨f', c', w', r', n', A, l, o⟩
   ·rw [hO] at k1
    have := Option.some.inj k1
    simp only [Af7, Prod.mk.injEq] at this
    exact absurd this.2.2.2.2.2.2.2.symm he'
   ·have hp2 := o.prog
    rw [hO] at hp2
    have hp3 := Option.some.inj hp2
    simp only [Prod.mk.injEq] at hp3
    obtain ⟨i1, i2, i3, i4, i5, i6, i7, _⟩ := hp3
    obtain rfl : f = f' := by omega
    obtain rfl : c = c' := by omega
    obtain rfl : w = w' := by omega
    obtain rfl : r = r' := by omega
    obtain rfl : n = n' := by omega
    subst i7
    have hlen := o.len
    have hs1 := o.some1
    have hsum := o.sum
    have hA := o.at'
    have hAT : (A : Int) = (T : Int) + 4 * (v1.length : Int) + 4 := by omega
    have a1 : Be 4 (v1.length : Int) = 4 * (v1.length : Int) := Gu (by omega) (by omega)
    have eV : Ae (Ae (T : Int) (Be 4 (Ac v1))) 4 = (A : Int) := by
     rw [Ac, a1, Ag (a := (T : Int)) (by omega) (by omega), Ag (by omega) (by omega)]; omega
    have eR : Ae (T : Int) (Ae (Be 4 (Ac v1)) 4) = (A : Int) := by
     rw [Ac, a1, Ag (a := 4 * (v1.length : Int)) (by omega) (by omega), Ag (by omega) (by omega)]; omega
    have hlv := Ba6 o q d (T : Int) ((A : Int) + v1.sum) v1.length 0 Az [] (by omega) (by have := Am; omega) (by omega) (by simp)
    have hlr := Aq8 o v1.length 0 Az [] (by omega) (by have := Am; omega) (by omega) (by simp)
    rw [List.take_zero, List.sum_nil, Int.add_zero] at hlv hlr
    refine .inr ⟨f, c, w, r, n, A, v1, o, ?_, ?_⟩
    ·have hs := Ba2 v1 b p (f : Int) (c : Int) (w : Int) (r : Int) (n : Int) q d (T : Int) (framesL (longN r) n) hs1.2 o.five (A : Int) (by omega) (by omega) v1.length 0 Az (by omega) (by have := Am; omega)
     rw [List.take_zero, List.sum_nil, Int.add_zero] at hs
     rw [hV, Abf, Aay, if_neg (by rw [Ah]; simp), Ah0, eV]
     refine Eq.trans hs ?_
     rw [Abw, Aij, eV, Kx, Aa7, if_neg (by rw [Ah]; simp), Bbm p o.pass, Aa]
     exact hlv
    ·rw [hR, if_neg (by rw [Ah]; simp), Aa, Azz p o.pass, Aa, eR]
     exact hlr
end Go.Pl
set_option linter.unusedVariables false
set_option linter.unusedSimpArgs false
namespace Go.Pl
open Go Go.Lv
def Aks (b : List UInt8) : List Int := framesL (longN (f3 (hdr b))) (f4 (hdr b))
def Aje (b : List UInt8) : Nat := (frontS b).1.toNat + 22 + (if f0 (hdr b) = 2 then 8 else 0)
theorem start_eq (b : List UInt8) (hb : b.length ≤ 100100) :
  (∃ e : Int, e ≠ 0 ∧ (∃ r1 r2 r3 r4 r5, Qw b = some (r1, r2, r3, r4, r5, 0, 0, 0, 0, 0, [], e)) ∧ (∃ q0 q1 q2 q3 q4 q5, Cx b = some (q0, q1, q2, q3, q4, q5, e))) ∨
  (b.length ≤ 100000 ∧ (frontS b).2 = 0 ∧ (readS (hdr b)).2.2.2.2.2 = 0 ∧
   Qw b = some ((f0 (hdr b) : Int), (f1 (hdr b) : Int), (f2 (hdr b) : Int), (f3 (hdr b) : Int), (f4 (hdr b) : Int), (frontS b).1, (frontS b).1 + 22, (Aje b : Int), 0, 0, Aks b, 0) ∧
   Cx b = some ((frontS b).1, (f0 (hdr b) : Int), (f1 (hdr b) : Int), (f2 (hdr b) : Int), (f3 (hdr b) : Int), (f4 (hdr b) : Int), 0)) := by
 by_cases h1 : 100000 < b.length
 ·refine .inl ⟨4, by omega, ⟨0, 0, 0, 0, 0, ?_⟩, ⟨0, 0, 0, 0, 0, 0, ?_⟩⟩
  ·rw [Qw, if_pos (by rw [Ax, Ac]; simp; omega)]
  ·rw [Cx, if_pos (by rw [Ax, Ac]; simp; omega)]
 ·rw [Qw, if_neg (by rw [Ax, Ac]; simp; omega), Cx, if_neg (by rw [Ax, Ac]; simp; omega), Wr b (by omega), Xd b (by omega), Aa, Aa]
  by_cases h2 : (frontS b).2 = 0
  ·obtain ⟨p0, p1, p2⟩ := Akw h2
   have hc := Gi (l := b) p0 p1
   simp only [h2]
   rw [if_neg (by rw [Ah]; simp), if_neg (by rw [Ah]; simp), hc, Aa, Aa, show b.drop (frontS b).1.toNat = hdr b from rfl, Al1 _ (by simp [hdr]; omega), Al0 _ (by simp [hdr]; omega), Aa, Aa]
   by_cases h3 : (readS (hdr b)).2.2.2.2.2 = 0
   ·obtain ⟨g1, g2, g3, g4⟩ := Ahn h3
    refine .inr ⟨by omega, trivial, h3, ?_, ?_⟩
    ·rw [g1]
     simp only
     rw [if_neg (by rw [Ah]; simp), Aei g3 g4, Aa]
     simp only
     have t22 : Ae (frontS b).1 22 = (frontS b).1 + 22 := Ag (by omega) (by omega)
     have t30 : Ae ((frontS b).1 + 22) 8 = (frontS b).1 + 22 + 8 := Ag (by omega) (by omega)
     rw [Bg, t22, t30]
     by_cases h5 : f0 (hdr b) = 2
     ·rw [if_pos (by rw [h5]; rfl)]
      rw [show (frontS b).1 + 22 + 8 = (Aje b : Int) by rw [Aje, if_pos h5]; omega]; rfl
     ·rw [if_neg (by simp; omega)]
      rw [show (Aje b : Int) = (frontS b).1 + 22 by rw [Aje, if_neg h5]; omega]; rfl
    ·rw [g1]
   ·generalize readS (hdr b) = v at *
    obtain ⟨v1, v2, v3, v4, v5, v6⟩ := v
    simp only at h3 ⊢
    exact .inl ⟨v6, h3, ⟨v1, v2, v3, v4, v5, by rw [if_pos (by rw [Ah]; simpa using h3)]⟩, ⟨(frontS b).1, v1, v2, v3, v4, v5, rfl⟩⟩
  ·generalize frontS b = v at *
   obtain ⟨v, e⟩ := v
   simp only at h2 ⊢
   refine .inl ⟨e, h2, ⟨0, 0, 0, 0, 0, ?_⟩, ⟨0, 0, 0, 0, 0, 0, ?_⟩⟩
   ·rw [if_pos (by rw [Ah]; simpa using h2)]
   ·rw [if_pos (by rw [Ah]; simpa using h2)]
theorem Awp (l : List Int) (b : List UInt8) (r2 r3 r4 r5 r6 r7 r8 r9 : Int) (l12 : List Int) (hl : l.length ≤ 1000) (h5 : ∀ x ∈ l, 5 ≤ x) : ∀ (j i q : Nat) (s : Int), i + j = l.length → j < q → 0 ≤ s → s + (l.drop i).sum ≤ 1000000 →
  Qj l b r2 r3 r4 r5 r6 r7 r8 r9 l12 q (i : Int) s = Yw b l r2 r3 r4 r5 r6 r7 r8 r9 (s + (l.drop i).sum) l12
 | 0, i, q + 1, s, hi, _, _, _ => by
  rw [Qj, Aba, if_neg (by rw [Af, Ac]; simp; omega), show i = l.length by omega, List.drop_length]; simp
 | j + 1, i, q + 1, s, hi, hq, h0, hs => by
  have hlt : i < l.length := by omega
  have hx := h5 l[i] (List.getElem_mem hlt)
  have h2 := Bhs (l.drop (i + 1)) fun y hy => h5 y (List.mem_of_mem_drop hy)
  rw [drop_cons hlt, List.sum_cons] at hs ⊢
  rw [Qj, Aba, if_pos (by rw [Af, Ac]; simp; omega), Cp hlt, Aa, Aa, Ag (by omega) (by omega), Ag (by omega) (by omega)]
  have ih := Awp l b r2 r3 r4 r5 r6 r7 r8 r9 l12 hl h5 j (i + 1) q (s + l[i]) (by omega) (by omega) (by omega) (by omega)
  rw [show ((i : Int) + 1) = ((i + 1 : Nat) : Int) by omega, ih, Int.add_assoc]
theorem Aon (b : List UInt8) (r2 x1 : Int) (l : List Int) (hl : l.length ≤ 1000) (h5 : ∀ x ∈ l, 5 ≤ x) : ∀ (j i q : Nat) (s : Int), i + j = l.length → j < q → 0 ≤ s → s + (l.drop i).sum ≤ 1000000 →
  Fm b r2 x1 l q (i : Int) s = Lz b r2 x1 l (s + (l.drop i).sum)
 | 0, i, q + 1, s, hi, _, _, _ => by
  rw [Fm, Md, if_neg (by rw [Af, Ac]; simp; omega), show i = l.length by omega, List.drop_length]; simp
 | j + 1, i, q + 1, s, hi, hq, h0, hs => by
  have hlt : i < l.length := by omega
  have hx := h5 l[i] (List.getElem_mem hlt)
  have h2 := Bhs (l.drop (i + 1)) fun y hy => h5 y (List.mem_of_mem_drop hy)
  rw [drop_cons hlt, List.sum_cons] at hs ⊢
  rw [Fm, Md, if_pos (by rw [Af, Ac]; simp; omega), Cp hlt, Aa, Aa, Ag (by omega) (by omega), Ag (by omega) (by omega)]
  have ih := Aon b r2 x1 l hl h5 j (i + 1) q (s + l[i]) (by omega) (by omega) (by omega) (by omega)
  rw [show ((i : Int) + 1) = ((i + 1 : Nat) : Int) by omega, ih, Int.add_assoc]
theorem Bh7 {b p : List UInt8} {f c w r n A : Nat} {l : List Int} (o : Opn b p f c w r n A l) (hfit : (A : Int) + l.sum ≤ b.length) :
  Ajp b = some ((frontS b).1, (frontS b).1 + 22, (A : Int) - 4 * (l.length : Int) - 4, (A : Int), (A : Int) + l.sum, 0) ∧ Ru b = some ((frontS b).1, (frontS b).1 + 22, (A : Int) - 4 * (l.length : Int) - 4, (A : Int), (A : Int) + l.sum, 0) := by
 have hfile := o.file
 have hhead := o.head
 have hpos := o.pos
 have hlen := o.len
 have hs1 := o.some1
 have hsum := o.sum
 have hA := o.at'
 obtain ⟨p0, p1, p2⟩ := Akw o.tag
 have h3 : (readS (hdr b)).2.2.2.2.2 = 0 := by rw [hhead]
 obtain ⟨c1, c2, c3, c4⟩ := Ahn h3
 rw [c1] at hhead
 simp only [Prod.mk.injEq] at hhead
 obtain ⟨i1, i2, i3, i4, i5, _⟩ := hhead
 have e1 : f0 (hdr b) = f := by omega
 have e2 : f1 (hdr b) = c := by omega
 have e3 : f2 (hdr b) = w := by omega
 have e4 : f3 (hdr b) = r := by omega
 have e5 : f4 (hdr b) = n := by omega
 have htab := o.tab
 have hT : (frontS b).1.toNat + 22 + (if f = 2 then 8 else 0) = Aje b := by rw [Aje, e1]
 rw [hT] at htab
 have hTA : (Aje b : Int) = (A : Int) - 4 * (l.length : Int) - 4 := by omega
 have hfr : Aks b = framesL (longN r) n := by rw [Aks, e4, e5]
 have hk : (Aks b).length = l.length := by rw [hfr, hlen]
 obtain ⟨hc, hw, hr, hn, _⟩ := Yj o.shape
 have hfit4 : n ≤ 4000 / c := by have := o.fit; simp only [fitB, decide_eq_true_eq] at this; exact this.1
 have hn4 : n ≤ 4000 := by have := Nat.div_le_self 4000 c; omega
 have hspl : Bw (f3 (hdr b) : Int) (f4 (hdr b) : Int) = some (Aks b) := by rw [hfr, e4, e5]; exact Ah1 hr.2 hn hn4
 rw [Ajp, Ai9, Ru, Ug]
 rcases start_eq b (by omega) with ⟨e, he, _, ⟨q0, q1, q2, q3, q4, q5, h2⟩⟩ | ⟨_, _, _, h1, h2⟩
 ·exfalso
  have hr2 := Cx b
  have : Cx b = some ((frontS b).1, (f0 (hdr b) : Int), (f1 (hdr b) : Int), (f2 (hdr b) : Int), (f3 (hdr b) : Int), (f4 (hdr b) : Int), 0) := by
   have hcut := Gi (l := b) p0 p1
   have htag := o.tag
   rw [Cx, if_neg (by rw [Ax, Ac]; simp; omega), Xd b (by omega), Aa]
   generalize hv : frontS b = v at *
   obtain ⟨v1, v2⟩ := v
   simp only at htag hcut ⊢
   rw [if_neg (by rw [Ah]; simpa using htag), hcut, Aa, show b.drop v1.toNat = hdr b by rw [hdr, hv], Al0 _ (by simp [hdr]; omega), c1, Aa]
  rw [h2] at this
  have := Option.some.inj this
  simp only [Prod.mk.injEq] at this
  exact he this.2.2.2.2.2.2
 ·rw [h1, h2, Aa, Aa]
  have z : Ck (0 : Int) 0 = false := by decide
  simp only [z, Bool.false_eq_true, if_false]
  have e22 : Ae (frontS b).1 22 = (frontS b).1 + 22 := Ag (by omega) (by omega)
  have e30 : Ae ((frontS b).1 + 22) 8 = (frontS b).1 + 22 + 8 := Ag (by omega) (by omega)
  have hr : (if geq (f0 (hdr b) : Int) 2 = true then Fk b (f0 (hdr b)) (f1 (hdr b)) (f2 (hdr b)) (f3 (hdr b)) (f4 (hdr b)) (frontS b).1 (Ae (Ae (frontS b).1 22) 8) else Fk b (f0 (hdr b)) (f1 (hdr b)) (f2 (hdr b)) (f3 (hdr b)) (f4 (hdr b)) (frontS b).1 (Ae (frontS b).1 22)) =
    Fk b (f0 (hdr b)) (f1 (hdr b)) (f2 (hdr b)) (f3 (hdr b)) (f4 (hdr b)) (frontS b).1 (Aje b : Int) := by
   rw [e22, e30, Bg]
   by_cases h5 : f0 (hdr b) = 2
   ·rw [if_pos (by rw [h5]; rfl), show (frontS b).1 + 22 + 8 = (Aje b : Int) by rw [Aje, if_pos h5]; omega]
   ·rw [if_neg (by simp; omega), show (frontS b).1 + 22 = (Aje b : Int) by rw [Aje, if_neg h5]; omega]
  have hc := Gi (l := b) (a := (Aje b : Int)) (by omega) (by omega)
  rw [Int.toNat_natCast] at hc
  have hdl : (b.drop (Aje b)).length ≤ 100100 := by simp; omega
  have hsp := Atv (b.drop (Aje b)) (Aks b).length hdl
  have hsr := Azo (b.drop (Aje b)) (Aks b).length hdl
  rw [hk, htab] at hsp hsr
  have eA : Ae (Ae (Aje b : Int) (Be 4 (Ac l))) 4 = (A : Int) := by
   have a1 : Be 4 (Ac l) = 4 * (l.length : Int) := Gu (by unfold Ac; omega) (by unfold Ac; omega)
   have a2 : Ae (Aje b : Int) (4 * (l.length : Int)) = (Aje b : Int) + 4 * (l.length : Int) := Ag (by omega) (by omega)
   rw [a1, a2, Ag (by omega) (by omega)]; omega
  rw [hr, Fk, Ua, if_neg (by rw [Af, Ac]; simp; omega), if_neg (by rw [Af, Ac]; simp; omega), Ie, hc, hspl, Aa, Aa, Aa, show Ac (Aks b) = ((Aks b).length : Int) from rfl, hk, hsp, hsr, Aa, Aa, Aa]
  simp only
  rw [Aix, Aia]
  simp only [z, Bool.false_eq_true, if_false]
  rw [eA, Aiv, Tx]
  have q1 := Awp l b (f0 (hdr b)) (f1 (hdr b)) (f2 (hdr b)) (f3 (hdr b)) (f4 (hdr b)) (frontS b).1 ((frontS b).1 + 22) (Aje b) (Aks b) (by omega) o.five l.length 0 Az (A : Int) (by omega) (by have := Am; omega) (by omega) (by rw [List.drop_zero]; omega)
  have q2 := Aon b (frontS b).1 (Aje b) l (by omega) o.five l.length 0 Az (A : Int) (by omega) (by have := Am; omega) (by omega) (by rw [List.drop_zero]; omega)
  rw [List.drop_zero] at q1 q2
  rw [show (0 : Int) = ((0 : Nat) : Int) from rfl, q1, q2, Yw, Af0, So, Aga, z, if_neg (by simp), Af3, Anx, Lz, Acr, eA, e22]
  rw [if_neg (by rw [Af, Ac]; simpa using hfit), hTA]
  exact ⟨rfl, rfl⟩
end Go.Pl
set_option linter.unusedVariables false
set_option linter.unusedSimpArgs false
namespace Go.Pl
open Go Go.Lv
theorem Akv {b : List UInt8} {i K : Nat} (h : i < K) : (b.take K).getD i 0 = b.getD i 0 := by
 rw [List.getD_eq_getElem?_getD, List.getD_eq_getElem?_getD, List.getElem?_take, if_pos h]
theorem Awn {b : List UInt8} {n : Int} {K : Nat} (h : Yo b = (n, 0)) (hK : n ≤ K) : Yo (b.take K) = (n, 0) := by
 obtain ⟨k1, k2, k3⟩ := Bfn h
 have hl : (b.take K).length = min K b.length := List.length_take
 have e3 : (b.take K).take 3 = b.take 3 := by rw [List.take_take, Nat.min_eq_left (by omega)]
 have ep : part (b.take K) 6 4 = part b 6 4 := Qs (by omega)
 have eq : part (b.take K) 3 7 = part b 3 7 := Qs (by omega)
 have et : (b.take K).take n.toNat = b.take n.toNat := by rw [List.take_take, Nat.min_eq_left (by omega)]
 unfold Yo at h ⊢
 split at h; · simp at h
 rename_i h0
 split at h; · simp at h
 split at h; · simp at h
 rename_i h1 h2
 rw [if_neg (by rw [e3, hl]; intro h3; exact h0 fun h4 => h3 ⟨by omega, h4.2⟩), if_neg (by omega), ep, Akv (by omega), Akv (by omega), Akv (by omega), if_neg h2]
 unfold Ax9 at h ⊢
 rw [Akv (by omega)]
 generalize (Ake (part b 6 4) 0).1 + 10 + (if b.getD 5 0 = 16 then 10 else 0) = m at h ⊢
 unfold Ak9 at h ⊢
 split at h; · simp at h
 split at h; · simp at h
 split at h; · simp at h
 rename_i g1 g2 g3
 simp only [Prod.mk.injEq, and_true] at h
 subst h
 rw [if_neg g1, if_neg (by omega), Akv (by omega), et, eq, if_neg g3]
theorem Be3 {b : List UInt8} {n : Int} {K : Nat} (h : Ki b = (n, 0)) (hK : n ≤ K) : Ki (b.take K) = (n, 0) := by
 obtain ⟨k1, k2⟩ := Aue h
 have hl : (b.take K).length = min K b.length := List.length_take
 have e8 : (b.take K).take 8 = b.take 8 := by rw [List.take_take, Nat.min_eq_left (by omega)]
 have e32 : (b.take K).take 32 = b.take 32 := by rw [List.take_take, Nat.min_eq_left (by omega)]
 have ep : part (b.take K) 12 4 = part b 12 4 := Qs (by omega)
 have eq : part (b.take K) 16 4 = part b 16 4 := Qs (by omega)
 have eb : Aas (b.take K) = Aas b := by rw [Aas, Aas, ep, eq]
 unfold Ki at h ⊢
 rw [e8, e32, ep, eq, eb, hl]
 split at h; · simp at h
 rename_i h0
 split at h; · simp at h
 split at h; · simp at h
 rename_i h1 h2
 split at h; · simp at h
 split at h; · simp at h
 rename_i h3 h4
 simp only [Prod.mk.injEq, and_true] at h
 have et : (b.take K).take (Ed (part b 12 4) + 32) = b.take (Ed (part b 12 4) + 32) := by rw [List.take_take, Nat.min_eq_left (by omega)]
 rw [if_neg (by intro h5; exact h0 fun h6 => h5 ⟨by omega, h6.2⟩), if_neg (by omega), if_neg h2, if_neg (by omega), et, if_neg h4, h]
theorem Bok (b : List UInt8) (n : Int) : (Ak9 b n).2 ≠ 6 := by
 unfold Ak9
 split; · simp
 split; · simp
 split <;> simp
theorem Bis {b : List UInt8} {n : Int} {K : Nat} (h : Dd b = (n, 0)) (hK : n ≤ K) : Dd (b.take K) = (n, 0) := by
 have hok := Ao0 h
 unfold Dd at h ⊢
 split at h
 ·rw [if_pos (by rw [Awn h hK]; simp), Awn h hK]
 ·rename_i h6
  have h6' : (Yo b).2 = 6 := by simpa using h6
  have hA := Aue h
  have hp : ¬ (3 ≤ b.length ∧ b.take 3 = [73, 68, 51]) := by
   intro hp
   unfold Yo at h6'
   rw [if_neg (fun e => e hp)] at h6'
   split at h6'; · simp at h6'
   split at h6'; · simp at h6'
   exact Bok _ _ h6'
  have hT : Yo (b.take K) = (0, 6) := by
   unfold Yo
   rw [if_pos]
   rw [List.take_take, Nat.min_eq_left (by omega), List.length_take]
   intro h; exact hp ⟨by omega, h.2⟩
  rw [if_neg (by rw [hT]; simp), Be3 h hK]
theorem Bqv {b : List UInt8} (h : b.take 1 = [84]) : Dd b = (0, 6) := by
 have h1 : ∀ k (l : List UInt8), b.take (k + 1) = l → l.take 1 = [84] := fun k l e => by rw [← e, List.take_take, Nat.min_eq_left (by omega), h]
 have hT : Yo b = (0, 6) := by
  unfold Yo
  rw [if_pos]
  intro h3
  have := h1 2 _ h3.2
  simp at this
 have hA : Ki b = (0, 6) := by
  unfold Ki
  rw [if_pos]
  intro h3
  have := h1 7 _ h3.2
  simp [APE] at this
 rw [Dd, hT, if_neg (by simp), hA]
theorem Au4 {b : List UInt8} {M : Nat} : ∀ (j p : Nat) (xs : List Int), Bv b j p = (xs, 0) → p ≤ b.length → p ≤ 4000 → (b.drop ((p : Int) + xs.sum).toNat).take 1 = [84] → (p : Int) + xs.sum < M → ∀ j', xs.length < j' → Bv (b.take M) j' p = (xs, 0)
 | 0, p, xs, h, _, _, _, _ => by simp [Bv] at h
 | j + 1, p, xs, h, hp, hp4, h84, hM => by
  intro j' hj'
  obtain ⟨j', rfl⟩ : ∃ k, j' = k + 1 := ⟨j' - 1, by omega⟩
  have ed : (b.take M).drop p = (b.drop p).take (M - p) := by rw [List.drop_take]
  rw [Bv] at h ⊢
  rw [ed]
  by_cases h6 : (Dd (b.drop p)).2 = 6
  ·rw [if_pos h6] at h
   obtain rfl : [] = xs := (Prod.mk.inj h).1
   have e : ((p : Int) + ([] : List Int).sum).toNat = p := by simp
   rw [e] at h84
   rw [if_pos]
   rw [Bqv]
   rw [List.take_take, Nat.min_eq_left (by simp at hM; omega), h84]
  ·rw [if_neg h6] at h
   by_cases h0 : (Dd (b.drop p)).2 ≠ 0
   ·rw [if_pos h0] at h; exact absurd (Prod.mk.inj h).2 h0
   ·rw [if_neg h0] at h
    have h0' : (Dd (b.drop p)).2 = 0 := by simpa using h0
    have hs : Dd (b.drop p) = ((Dd (b.drop p)).1, 0) := Prod.ext rfl h0'
    obtain ⟨s1, s2⟩ := Ao0 hs
    rw [List.length_drop] at s2
    generalize hz : (Dd (b.drop p)).1 = z at *
    by_cases h4 : 4000 < (p : Int) + z
    ·rw [if_pos h4] at h; simp at h
    ·rw [if_neg h4] at h
     by_cases hr : (Bv b j (p + z.toNat)).2 = 0
     ·rw [if_pos hr] at h
      obtain ⟨g1, _⟩ := Prod.mk.inj h
      have hrec : Bv b j (p + z.toNat) = ((Bv b j (p + z.toNat)).1, 0) := Prod.ext rfl hr
      have hok := Ala b j (p + z.toNat) (by omega) (by omega) hr
      generalize hy : (Bv b j (p + z.toNat)).1 = ys at *
      subst g1
      have hsum : ((p + z.toNat : Nat) : Int) + ys.sum = (p : Int) + (z :: ys).sum := by rw [List.sum_cons]; omega
      have ih := Au4 j (p + z.toNat) ys hrec (by omega) (by omega) (by rw [hsum]; exact h84) (by rw [hsum]; exact hM) j' (by simpa using hj')
      have hys : 0 ≤ ys.sum := by
       have : ∀ l : List Int, (∀ x ∈ l, 10 ≤ x) → 0 ≤ l.sum := fun l hl => (Aqo hl).1
       exact this ys hok.1
      have hst : Dd ((b.drop p).take (M - p)) = (z, 0) := Bis hs (by rw [List.sum_cons] at hM; omega)
      rw [hst]
      simp only
      rw [if_neg (by omega), if_neg (by simp), if_neg h4, ih]
      simp
     ·rw [if_neg hr] at h; exact absurd (Prod.mk.inj h).2 hr
theorem Bfo {b : List UInt8} {F M : Nat} (h : frontS b = ((F : Int), 0)) (h84 : (b.drop F).take 1 = [84]) (hM : F < M) (hMb : M ≤ b.length) : frontS (b.take M) = ((F : Int), 0) := by
 unfold frontS Bip at h ⊢
 by_cases h0 : (Bv b (b.length + 1) 0).2 = 0
 ·rw [if_pos h0] at h
  have hx := (Prod.mk.inj h).1
  have hs : Bv b (b.length + 1) 0 = ((Bv b (b.length + 1) 0).1, 0) := Prod.ext rfl h0
  obtain ⟨o1, o2, o3⟩ := Ala b (b.length + 1) 0 (by omega) (by omega) h0
  have hl := (Aqo o1).2
  generalize (Bv b (b.length + 1) 0).1 = xs at *
  have ht := Au4 (M := M) (b.length + 1) 0 xs hs (by omega) (by omega) (by rw [hx]; exact h84) (by rw [hx]; omega) ((b.take M).length + 1) (by rw [List.length_take]; omega)
  rw [ht]
  simp only
  rw [if_pos trivial, hx]
 ·rw [if_neg h0] at h
  exact absurd (Prod.mk.inj h).2 h0
end Go.Pl
set_option linter.unusedVariables false
set_option linter.unusedSimpArgs false
namespace Go.Pl
open Go Go.Lv
section
variable {b p : List UInt8} {f c w r n A : Nat} {l : List Int} (o : Opn b p f c w r n A l)
include o
end
end Go.Pl
set_option linter.unusedVariables false
set_option linter.unusedSimpArgs false
namespace Go.Pl
open Go Go.Lv
theorem Bit {b : List UInt8} {K : Nat} (h : (readS b).2.2.2.2.2 = 0) (hK : 22 ≤ K) : readS (b.take K) = readS b := by
 obtain ⟨g1, g2, g3, g4⟩ := Ahn h
 have hl : (b.take K).length = min K b.length := List.length_take
 have ht : ∀ j, j ≤ 22 → (b.take K).take j = b.take j := fun j hj => by rw [List.take_take, Nat.min_eq_left (by omega)]
 have hp : ∀ a w, a + w ≤ 22 → part (b.take K) a w = part b a w := fun a w h => Qs (by omega)
 have e0 : f0 (b.take K) = f0 b := by simp only [f0]; rw [hp _ _ (by omega)]
 have e1 : f1 (b.take K) = f1 b := by simp only [f1]; rw [hp _ _ (by omega)]
 have e2 : f2 (b.take K) = f2 b := by simp only [f2]; rw [hp _ _ (by omega)]
 have e3 : f3 (b.take K) = f3 b := by simp only [f3]; rw [hp _ _ (by omega)]
 have e4 : f4 (b.take K) = f4 b := by simp only [f4]; rw [hp _ _ (by omega)]
 unfold readS
 rw [hl, Nat.min_eq_left (show 4 ≤ min K b.length by omega), Nat.min_eq_left (show 4 ≤ b.length by omega), ht 4 (by omega), ht 18 (by omega), hp 18 4 (by omega), e0, e1, e2, e3, e4]
 by_cases hm : b.take 4 ≠ An9.take 4
 ·rw [if_pos hm, if_pos hm]
 ·rw [if_neg hm, if_neg hm, if_neg (show ¬ min K b.length < 22 by omega), if_neg (show ¬ b.length < 22 by omega)]
theorem Btk {b : List UInt8} (h : (readS b).2.2.2.2.2 = 0) : b.take 1 = [84] := by
 obtain ⟨g1, g2, _⟩ := Ahn h
 unfold readS at h
 by_cases hm : b.take (min 4 b.length) ≠ An9.take (min 4 b.length)
 ·rw [if_pos hm] at h; simp at h
 ·have hm' : b.take (min 4 b.length) = An9.take (min 4 b.length) := by simpa using hm
  rw [Nat.min_eq_left (by omega)] at hm'
  have : (b.take 4).take 1 = [84] := by rw [hm']; rfl
  rwa [List.take_take, Nat.min_eq_left (by omega)] at this
theorem Bhh (b : List UInt8) (n : Nat) : (seekS b n).2 ≠ 26 := by
 unfold seekS
 split; · simp
 split; · simp
 split; · simp
 split <;> simp
theorem Ayi {c r n : Nat} (h : fitB c r n = true) : 1 ≤ (framesL (longN r) n).length ∧ (framesL (longN r) n).length ≤ 1000 := by
 simp only [fitB, decide_eq_true_eq] at h
 rw [Avn]; exact ⟨Nat.le_add_left _ _, h.2⟩
theorem Bpr {K : Nat} (h : 1 ≤ K ∧ K ≤ 1000) : seekS [] K = ([], 24) := ss2 h (by simp)
theorem Bhf (b p : List UInt8) (hb : b.length ≤ 100100) (hp : p.length ≤ 64) {e : Int} (he : e ≠ 0) (h : seekto_Open b p = some (Af7 e)) : ∃ y, Xe b p e = some y ∧ Ig b p = some y := by
 have hP : Xe b p e = Xe b p e := rfl
 have hR : Ig b p = Ig b p := rfl
 conv at hP => rhs; rw [Xe]
 conv at hR => rhs; rw [Ig]
 by_cases h1 : 100000 < b.length
 ·rw [if_pos (by rw [Ax, Ac]; simp; omega)] at hP hR
  exact ⟨_, hP, hR⟩
 rw [if_neg (by rw [Ax, Ac]; simp; omega)] at hP hR
 rw [Wr b (by omega), Aa] at hP
 rw [Xd b (by omega), Aa] at hR
 have hO := h
 rw [seekto_Open, Qk, if_neg (by rw [Ax, Ac]; simp; omega), if_neg (by rw [Ax, Ac]; simp; omega), Wr b (by omega), Aa] at hO
 have hfr : ∀ M, ∀ F : Nat, frontS b = ((F : Int), 0) → (b.drop F).take 1 = [84] → F < M → M ≤ b.length → frontS (b.take M) = ((F : Int), 0) := fun M F h1 h2 h3 h4 => Bfo h1 h2 h3 h4
 by_cases h2 : (frontS b).2 = 0
 ·obtain ⟨p0, p1, p2⟩ := Akw h2
  have hc := Gi (l := b) p0 p1
  have hpair : frontS b = ((((frontS b).1.toNat : Nat) : Int), 0) := Prod.ext (by simp only; omega) h2
  simp only [h2] at hO hP hR
  rw [if_neg (by rw [Ah]; simp), hc, Aa, show b.drop (frontS b).1.toNat = hdr b from rfl, Al1 _ (by simp [hdr]; omega), Aa] at hO
  rw [if_neg (by rw [Ah]; simp), hc, Aa, show b.drop (frontS b).1.toNat = hdr b from rfl] at hP hR
  rw [Al1 _ (by simp [hdr]; omega), Aa] at hP
  rw [Al0 _ (by simp [hdr]; omega), Aa] at hR
  by_cases h3 : (readS (hdr b)).2.2.2.2.2 = 0
  ·obtain ⟨g1, g2, g3, g4⟩ := Ahn h3
   have h84 := Btk h3
   have hrt := fun K => Bit (K := K) h3
   have hhd : hdr b = b.drop (frontS b).1.toNat := rfl
   have hlen : (hdr b).length = b.length - (frontS b).1.toNat := by simp [hdr]
   rw [hhd] at h84
   generalize hF : (frontS b).1.toNat = F at *
   have hF' : (frontS b).1 = (F : Int) := by omega
   rw [g1, hF'] at hO hP hR
   simp only at hO hP hR
   rw [g1] at hrt
   generalize f0 (hdr b) = f at *
   generalize f1 (hdr b) = c at *
   generalize f2 (hdr b) = w at *
   generalize f3 (hdr b) = r at *
   generalize f4 (hdr b) = n at *
   have t22 : Ae (F : Int) 22 = ((F + 22 : Nat) : Int) := by rw [Ag (by omega) (by omega)]; omega
   have t30 : Ae ((F + 22 : Nat) : Int) 8 = ((F + 30 : Nat) : Int) := by rw [Ag (by omega) (by omega)]; omega
   have hf12 : f = 1 ∨ f = 2 := by simp only [shapeB, decide_eq_true_eq] at g3; omega
   have hsub : Al (Ac b) (F : Int) = ((b.length - F : Nat) : Int) := by rw [Ac, Bi (by omega) (by omega)]; omega
   rw [if_neg (by rw [Ah]; simp), t22, t30] at hO
   rw [if_neg (by rw [Ah]; simp), hsub] at hP
   rw [if_neg (by rw [Ah]; simp), t22, t30] at hR
   have htail : ∀ T : Nat, T ≤ b.length → Lg b (f : Int) (c : Int) (w : Int) (r : Int) (n : Int) (T : Int) = some (Af7 e) → e ≠ 26 := by
    intro T hT h5
    rw [Aun g3 g4 b hb T hT] at h5
    by_cases h6 : (seekS (b.drop T) (framesL (longN r) n).length).2 ≠ 0
    ·rw [if_pos h6] at h5
     have h7 : (seekS (b.drop T) (framesL (longN r) n).length).2 = e := by simpa [Af7] using Option.some.inj h5
     rw [← h7]; exact Bhh _ _
    ·rw [if_neg h6] at h5
     have h7 := Option.some.inj h5
     simp only [Af7, Prod.mk.injEq] at h7
     exact absurd h7.2.2.2.2.2.2.2.symm he
   by_cases hpass : ((p == ([] : List UInt8)) != (geq (f : Int) (1 : Int))) = true
   ·rw [if_pos hpass] at hO
    have : 26 = e := by simpa [Af7] using Option.some.inj hO
    subst this
    rw [if_pos hpass] at hR
    rw [if_pos (by decide), if_pos (by decide)] at hP
    exact ⟨_, hP, hR⟩
   ·rw [if_neg hpass] at hO
    rw [if_neg hpass] at hR
    have hpf : (p = [] ↔ f = 1) := by
     rw [Bg] at hpass
     have h5 : (p == ([] : List UInt8)) = ((f : Int) == 1) := by simpa using hpass
     have h6 : (p == ([] : List UInt8)) = true ↔ ((f : Int) == 1) = true := by rw [h5]
     rw [beq_iff_eq, beq_iff_eq] at h6
     rw [h6]; omega
    by_cases h5 : f = 2
    ·have hpne : p ≠ [] := fun e => by have := hpf.1 e; omega
     rw [if_pos (by simpa using hpne)] at hO
     rw [if_pos (by rw [Bg, h5]; rfl)] at hR
     have hmin : Gd (Ac b) ((F + 30 : Nat) : Int) = ((min b.length (F + 30) : Nat) : Int) := by rw [Ahd, Ac]; omega
     rw [hmin, Jo (by omega) (by omega), Aa, Int.toNat_natCast] at hR
     by_cases h6 : b.length < F + 30
     ·rw [if_pos (by rw [Af, Ac]; simp; omega)] at hO
      have : 24 = e := by simpa [Af7] using Option.some.inj hO
      subst this
      rw [if_neg (by decide), if_pos (by simp [Bg, Af, h5]; omega)] at hP
      have htot : ∃ y, cadenzaref40_Opened (b.take (min b.length (F + 30))) p = some y := by
       rcases Awc (b.take (min b.length (F + 30))) p (by simp; omega) hp with ⟨_, _, _, k⟩ | ⟨_, _, _, _, _, _, _, o⟩
       ·exact ⟨_, k⟩
       ·exact ⟨_, o.ref⟩
      obtain ⟨⟨y1, y2, y3, y4, y5, y6, y7, y8⟩, hy⟩ := htot
      rw [hy, Aa] at hR
      simp only at hR
      rw [if_pos (by simp [Af, Ac]; right; omega)] at hR
      exact ⟨_, hP, hR⟩
     ·have hseg : ((b.take (F + 30)).drop (F + 22)).length = 8 := by simp; omega
      rw [if_neg (by rw [Af, Ac]; simp; omega), Ps (by omega) (by omega) (by omega), Aa, show ((F + 30 : Nat) : Int).toNat = F + 30 from rfl, show ((F + 22 : Nat) : Int).toNat = F + 22 from rfl, Bd2 hseg hp, Aa] at hO
      simp only at hO
      rw [if_neg (by rw [Ah]; simp)] at hO
      have hft := hfr (F + 30) F hpair h84 (by omega) (by omega)
      have hT : (b.take (F + 30)).length = F + 30 := by simp; omega
      have hd : (b.take (F + 30)).drop F = (hdr b).take 30 := by rw [hhd, List.drop_take]; congr 1; omega
      have hcT := Gi (l := b.take (F + 30)) (a := (F : Int)) (by omega) (by omega)
      rw [Int.toNat_natCast, hd] at hcT
      have hT2 : cadenzaref40_Opened (b.take (F + 30)) p = cadenzaref40_Opened (b.take (F + 30)) p := rfl
      conv at hT2 => rhs; rw [cadenzaref40_Opened, Hh, if_neg (by rw [Ax, Ac, hT]; simp; omega), Xd _ (by omega), hft, Aa]
      simp only at hT2
      rw [if_neg (by rw [Ah]; simp), hcT, Aa, Al0 _ (by simp; omega), hrt 30 (by omega), Aa] at hT2
      simp only at hT2
      have hs8 : Al (Ac (b.take (F + 30))) ((F + 22 : Nat) : Int) = 8 := by rw [Ac, hT, Bi (by omega) (by omega)]; omega
      have hcs : Bt (b.take (F + 30)) ((F + 22 : Nat) : Int) ((F + 30 : Nat) : Int) = some ((b.take (F + 30)).drop (F + 22)) := by
       rw [Ps (by omega) (by omega) (by omega), show ((F + 30 : Nat) : Int).toNat = F + 30 from rfl, show ((F + 22 : Nat) : Int).toNat = F + 22 from rfl, List.take_take, Nat.min_self]
      rw [if_neg (by rw [Ah]; simp), t22, if_neg hpass, if_pos (by rw [Bg, h5]; rfl), hs8, if_neg (by decide), t30, hcs, Aa, Atz p hp, Aa] at hT2
      rw [Nat.min_eq_right (by omega)] at hR
      generalize hsg : (b.take (F + 30)).drop (F + 22) = seg at *
      by_cases h7 : seg = leB (Ac8 p).toNat 8
      ·rw [if_neg (by simp [h7])] at hO hT2
       have h26 := htail (F + 30) (by omega) hO
       have hK := Ayi g4
       rw [Bfm g3 g4 (b.take (F + 30)) (by omega) (F + 30) (by omega), List.drop_of_length_le (by omega), Bpr hK] at hT2
       rw [if_neg (by rw [Bg]; simpa using h26), if_neg (by simp [Bg, Af]; omega)] at hP
       rw [hT2, if_pos (by simp), Aa, Af7] at hR
       simp only at hR
       rw [if_neg (by simp [Ah, Af, Ac]; omega)] at hR
       exact ⟨_, hP, hR⟩
      ·rw [if_pos (by simpa using h7)] at hO hT2
       have : 26 = e := by simpa [Af7] using Option.some.inj hO
       subst this
       rw [if_pos (by decide), if_pos (by decide)] at hP
       rw [hT2, Aa] at hR
       simp only at hR
       rw [if_pos (by simp [Ah])] at hR
       exact ⟨_, hP, hR⟩
    ·have hpe : p = [] := hpf.2 (by omega)
     rw [if_neg (by rw [hpe]; simp)] at hO
     have h26 := htail (F + 22) (by omega) hO
     rw [if_neg (by rw [Bg]; simpa using h26), if_neg (by simp [Bg]; omega)] at hP
     rw [if_neg (by rw [Bg]; simp; omega)] at hR
     exact ⟨_, hP, hR⟩
  ·generalize readS (hdr b) = v at *
   obtain ⟨v1, v2, v3, v4, v5, v6⟩ := v
   simp only at h3 hP hR
   rw [if_pos (by rw [Ah]; simpa using h3)] at hP hR
   exact ⟨_, hP, hR⟩
 ·generalize frontS b = v at *
  obtain ⟨v, e⟩ := v
  simp only at h2 hP hR
  rw [if_pos (by rw [Ah]; simpa using h2)] at hP hR
  exact ⟨_, hP, hR⟩
end Go.Pl
set_option linter.unusedVariables false
set_option linter.unusedSimpArgs false
namespace Go.Pl
open Go Go.Lv
theorem Bjf (g : Nat) : ∀ K : Nat, (List.replicate K (g : Int)).sum = ((K * g : Nat) : Int)
 | 0 => by simp
 | K + 1 => by
  rw [List.replicate_succ, List.sum_cons, Bjf g K, Nat.succ_mul]; omega
theorem Bg3 {g n : Nat} (hn : 1 ≤ n) : (framesL g n).sum = (n : Int) := by
 have h := Nat.div_mul_le_self (n - 1) g
 rw [framesL, List.sum_append, Bjf]
 simp only [List.sum_cons, List.sum_nil]
 omega
theorem Bhz : ∀ {l : List Int}, (∀ x ∈ l, 0 ≤ x) → 0 ≤ l.sum
 | [], _ => by simp
 | x :: l, h => by
  have h1 := h x List.mem_cons_self
  have h2 := Bhz (l := l) fun y hy => h y (List.mem_cons_of_mem _ hy)
  rw [List.sum_cons]; omega
theorem Aqb {l : List Int} (h : ∀ x ∈ l, 0 ≤ x) (i : Nat) : 0 ≤ (l.take i).sum ∧ (l.take i).sum ≤ l.sum := by
 have h1 := Bhz (l := l.take i) fun x hx => h x (List.mem_of_mem_take hx)
 have h2 := Bhz (l := l.drop i) fun x hx => h x (List.mem_of_mem_drop hx)
 have := Ba5 l i
 omega
def Anw (c w : Nat) (fr : List Int) (k : Nat) : Int := (((fr.take k).sum.toNat * (c * wB (w : Int)) : Nat) : Int)
section
variable {f c w r n : Nat} (h1 : shapeB f c w r n = true) (h2 : fitB c r n = true)
include h1 h2
theorem Ahc : (∀ x ∈ framesL (longN r) n, 0 ≤ x) ∧ (framesL (longN r) n).sum = (n : Int) ∧ n ≤ 4000 := by
 obtain ⟨hc, hw, hr, hn, _⟩ := Yj h1
 have hfit : n ≤ 4000 / c := by simp only [fitB, decide_eq_true_eq] at h2; exact h2.1
 have hn4 : n ≤ 4000 := by have := Nat.div_le_self 4000 c; omega
 refine ⟨fun x hx => ?_, Bg3 hn, hn4⟩
 obtain ⟨m, rfl, _⟩ := Ar1 (Ag5 r) hn hx
 omega
theorem Bav (k : Nat) (hk : k ≤ (framesL (longN r) n).length) : ∀ (j i q : Nat), i + j = k → j < q → Pq (k : Int) (f : Int) (c : Int) (w : Int) (r : Int) (n : Int) (framesL (longN r) n) q (((framesL (longN r) n).take i).sum) (i : Int) = some (Anw c w (framesL (longN r) n) k, 0)
 | 0, i, q + 1, hi, _ => by
  obtain ⟨hc, hw, hr, hn, _⟩ := Yj h1
  obtain ⟨g1, g2, g3⟩ := Ahc h1 h2
  have b := Aqb g1 i
  obtain rfl : i = k := by omega
  rw [Pq, Abg, if_neg (by rw [Af]; simp), Ahx, Ao2, Anw]
  have e : ((framesL (longN r) n).take i).sum = ((((framesL (longN r) n).take i).sum.toNat : Nat) : Int) := by omega
  rw [e, Buk (by omega) hc.2 hw]; rfl
 | j + 1, i, q + 1, hi, hq => by
  obtain ⟨g1, g2, g3⟩ := Ahc h1 h2
  have hK := Ayi h2
  have hlt : i < (framesL (longN r) n).length := by omega
  have b1 := Aqb g1 i
  have b2 := Aqb g1 (i + 1)
  have e := Gz hlt
  have ih := Bav k hk j (i + 1) q (by omega) (by omega)
  rw [e] at ih
  rw [Pq, Abg, if_pos (by rw [Af]; simp; omega), Cp hlt, Aa, Aa, Ag (by omega) (by omega), Ag (by omega) (by omega)]
  exact ih
theorem Aqj (k : Nat) (hk : k ≤ (framesL (longN r) n).length) : Aeu (f : Int) (c : Int) (w : Int) (r : Int) (n : Int) (k : Int) = some (Anw c w (framesL (longN r) n) k, 0) := by
 have hK := Ayi h2
 have h := Bav h1 h2 k hk k 0 Az (by omega) (by have := Am; omega)
 rw [List.take_zero, List.sum_nil] at h
 rw [Aeu, Ai7, Aei h1 h2, Aa]
 simp only
 rw [if_neg (by simp [Ah, Ax, Ac]; omega)]
 exact h
theorem Are (k : Nat) (hk : k ≤ (framesL (longN r) n).length) : ∀ (j i q : Nat), i + j = k → j < q → Gq (k : Int) (f : Int) (c : Int) (w : Int) (r : Int) (n : Int) (framesL (longN r) n) q (((framesL (longN r) n).take i).sum) (i : Int) = some (Anw c w (framesL (longN r) n) k)
 | 0, i, q + 1, hi, _ => by
  obtain ⟨hc, hw, hr, hn, _⟩ := Yj h1
  obtain ⟨g1, g2, g3⟩ := Ahc h1 h2
  have b := Aqb g1 i
  obtain rfl : i = k := by omega
  have hb : ((framesL (longN r) n).take i).sum.toNat * (c * wB (w : Int)) ≤ 4000 * (6 * 3) := Nat.mul_le_mul (by omega) (Nat.mul_le_mul hc.2 (Bjo (w : Int)).2)
  rw [Gq, Nh, if_neg (by rw [Af]; simp), Vo, Aer, Xm, Bte hc.2 hw, Aa, Anw]
  have e : ((framesL (longN r) n).take i).sum = ((((framesL (longN r) n).take i).sum.toNat : Nat) : Int) := by omega
  rw [e, Gu (by rw [← Int.natCast_mul]; omega) (by rw [← Int.natCast_mul]; omega), ← Int.natCast_mul]; rfl
 | j + 1, i, q + 1, hi, hq => by
  obtain ⟨g1, g2, g3⟩ := Ahc h1 h2
  have hK := Ayi h2
  have hlt : i < (framesL (longN r) n).length := by omega
  have b1 := Aqb g1 i
  have b2 := Aqb g1 (i + 1)
  have e := Gz hlt
  have ih := Are k hk j (i + 1) q (by omega) (by omega)
  rw [e] at ih
  rw [Gq, Nh, if_pos (by rw [Af]; simp; omega), Cp hlt, Aa, Aa, Ag (by omega) (by omega), Ag (by omega) (by omega)]
  exact ih
theorem Axk (k : Nat) (hk : k ≤ (framesL (longN r) n).length) : Jm (f : Int) (c : Int) (w : Int) (r : Int) (n : Int) (k : Int) = some (Anw c w (framesL (longN r) n) k) := by
 have hK := Ayi h2
 obtain ⟨g1, g2, g3⟩ := Ahc h1 h2
 obtain ⟨hc, hw, hr, hn, _⟩ := Yj h1
 have h := Are h1 h2 k hk k 0 Az (by omega) (by have := Am; omega)
 rw [List.take_zero, List.sum_nil] at h
 rw [Jm, Vk, Ah1 hr.2 hn g3, Aa]
 exact h
end
abbrev D5 := Int × UInt8 × Int × Int × Int
def Bfc (G : Nat → List UInt8 × Int) (ce : Int) (good : Nat → Int) (L : Nat) : Nat → Nat → D5
 | 0, _ => (ce, 6, 0, good L, 0)
 | j + 1, v => if (G v).2 ≠ 0 then (ce, 5, (v : Int), good v, 0) else Bfc G ce good L j (v + 1)
section
variable {b p : List UInt8} {f c w r n A : Nat} {l : List Int} (o : Opn b p f c w r n A l)
include o
theorem Bbt (ce : Int) (hce : ce ≠ 0) : ∀ (j v q : Nat), v + j = l.length → j < q → Lc b p l ce 6 (f : Int) (c : Int) (w : Int) (r : Int) (n : Int) (A : Int) q (v : Int) = some (Bfc (At6 b p f c w r n A l) ce (Anw c w (framesL (longN r) n)) l.length j v)
 | 0, v, q + 1, hv, _ => by
  rw [Lc, Wd, if_neg (by rw [Af, Ac]; simp; omega), Ve, Aax, Ac, Aqj o.shape o.fit l.length (by rw [← o.len]; exact Nat.le_refl _), Aa]; rfl
 | j + 1, v, q + 1, hv, hq => by
  have hs1 := o.some1
  obtain ⟨m, x, s, e, g⟩ := Ak0 o v (by omega)
  rw [Lc, Wd, if_pos (by rw [Af, Ac]; simp; omega), if_neg (by rw [Bg]; simpa using hce), Blo o (by omega) g, Aa, Bfc, g.eq]
  simp only
  by_cases he : e ≠ 0
  ·rw [if_pos (by rw [Ah]; simpa using he), if_pos he, Ve, Aax, Aqj o.shape o.fit v (by rw [← o.len]; omega), Aa]
  ·rw [if_neg (by rw [Ah]; simpa using he), if_neg he, Ag (by omega) (by omega)]
   exact Bbt ce hce j (v + 1) q (by omega) (by omega)
theorem Ara (ce : Int) : ∀ (j v q : Nat), v + j = l.length → j < q → Gk b p ce (Anw c w (framesL (longN r) n) l.length) (f : Int) (c : Int) (w : Int) (r : Int) (n : Int) (A : Int) l q (v : Int) = some (Bfc (At6 b p f c w r n A l) ce (Anw c w (framesL (longN r) n)) l.length j v)
 | 0, v, q + 1, hv, _ => by
  rw [Gk, Ny, if_neg (by rw [Af, Ac]; simp; omega)]; rfl
 | j + 1, v, q + 1, hv, hq => by
  have hs1 := o.some1
  obtain ⟨m, x, s, e, g⟩ := Ak0 o v (by omega)
  rw [Gk, Ny, if_pos (by rw [Af, Ac]; simp; omega), g.got, Aa, Bfc, g.eq]
  simp only
  by_cases he : e ≠ 0
  ·rw [if_pos (by rw [Ah]; simpa using he), if_pos he, Axk o.shape o.fit v (by rw [← o.len]; omega), Aa]
  ·rw [if_neg (by rw [Ah]; simpa using he), if_neg he, Ag (by omega) (by omega)]
   exact Ara ce j (v + 1) q (by omega) (by omega)
end
theorem Blq (b p : List UInt8) (hb : b.length ≤ 100100) (hp2 : p.length ≤ 1000) : ∃ y : D5, Aaf b p = some y ∧ Jq b p = some y := by
 have hP : Aaf b p = Aaf b p := rfl
 have hR : Jq b p = Jq b p := rfl
 conv at hP => rhs; rw [Aaf, Ai0, Aeq]
 conv at hR => rhs; rw [Jq, Wm, Lj]
 by_cases h64 : 64 < p.length
 ·rw [if_pos (by rw [Ax, Ac]; simp; omega)] at hP hR
  exact ⟨_, hP, hR⟩
 have hp : p.length ≤ 64 := by omega
 rw [if_neg (by rw [Ax, Ac]; simp; omega)] at hP hR
 rcases Bjg b p hb hp with ⟨e, he, h1, h2, h3, h4⟩ | ⟨f, c, w, r, n, A, l, o, h3, h4⟩
 ·obtain ⟨y, k1, k2⟩ := Bhf b p hb hp he h1
  rw [h3, Aa, Aa, h1, Aa, Asw, Af7] at hP
  rw [h4, Aa, Aa, Ayc hp h2, Aa, Asw, Af7] at hR
  simp only at hP hR
  rw [if_pos (by rw [Ah]; simpa using he), k1, Aa] at hP
  rw [if_pos (by rw [Ah]; simpa using he), k2, Aa] at hR
  exact ⟨_, hP, hR⟩
 ·have hs1 := o.some1
  have hlen := o.len
  rw [h3, Aa, Aa, o.prog, Aa] at hP
  rw [h4, Aa, Aa, Ayc hp o.ref, Aa] at hR
  simp only at hP hR
  rw [if_neg (by rw [Ah]; simp)] at hP hR
  rw [Ac, Axk o.shape o.fit l.length (by omega), Aa] at hR
  generalize (Azc b p f c w r n A l).2.2.2.2 = ce at hP hR
  by_cases hce : ce = 0
  ·subst hce
   have hF : Az = (Az - 1) + 1 := by have := Am; omega
   rw [if_neg (by rw [Ah]; simp), Ai5, Air, Ai1, hF, Lc, Wd, if_pos (by rw [Af, Ac]; simp; omega), if_pos (by rw [Bg]; simp), Ve, Aax, Ac, Aqj o.shape o.fit l.length (by omega), Aa] at hP
   rw [if_pos (by rw [Bg]; simp)] at hR
   exact ⟨_, hP, hR⟩
  ·rw [if_pos (by rw [Ah]; simpa using hce)] at hP
   rw [if_neg (by rw [Bg]; simpa using hce)] at hR
   exact ⟨_, hP.trans (Bbt o ce hce l.length 0 Az (by omega) (by have := Am; omega)), hR.trans (Ara o ce l.length 0 Az (by omega) (by have := Am; omega))⟩
def Auu (good : Nat → Int) (A at' : Int) (l : List Int) : Nat → Nat → D5
 | 0, _ => (0, 6, 0, 0, 0)
 | j + 1, i => if at' < A + (l.take (i + 1)).sum then (0, 5, (i : Int), good i, 0) else Auu good A at' l j (i + 1)
section
variable {b p : List UInt8} {f c w r n A : Nat} {l : List Int} (o : Opn b p f c w r n A l)
include o
theorem Bb8 (a : Int) (ha : 0 ≤ a) (ha2 : a ≤ 100100) : ∀ (j i q : Nat), i + j = l.length → j < q → Ms a l (f : Int) (c : Int) (w : Int) (r : Int) (n : Int) (A : Int) q ((A : Int) + (l.take i).sum) (i : Int) = some (Auu (Anw c w (framesL (longN r) n)) (A : Int) a l j i)
 | 0, i, q + 1, hi, _ => by
  rw [Ms, Yt, if_neg (by rw [Af, Ac]; simp; omega)]; rfl
 | j + 1, i, q + 1, hi, hq => by
  have hs1 := o.some1
  have hsum := o.sum
  have hA := o.at'
  have hfile := o.file
  have hlt : i < l.length := by omega
  have b1 := Eb o.five i
  have b2 := Eb o.five (i + 1)
  have e := Gz hlt
  rw [Ms, Yt, if_pos (by rw [Af, Ac]; simp; omega), Cp hlt, Aa, Aa, Ag (a := (A : Int) + (l.take i).sum) (by omega) (by omega), Int.add_assoc, ← e, Auu]
  by_cases h : a < (A : Int) + (l.take (i + 1)).sum
  ·rw [if_pos (by rw [Af]; simpa using h), if_pos h, Aqj o.shape o.fit i (by rw [← o.len]; omega), Aa]
  ·rw [if_neg (by rw [Af]; simpa using h), if_neg h, Ag (by omega) (by omega)]
   exact Bb8 a ha ha2 j (i + 1) q (by omega) (by omega)
theorem Aq4 (a : Int) (ha : 0 ≤ a) (ha2 : a < (A : Int) + l.sum) : ∀ (j i q : Nat), i + j = l.length → j < q → 1 ≤ j → Hy a (f : Int) (c : Int) (w : Int) (r : Int) (n : Int) (A : Int) l q (i : Int) = some (Auu (Anw c w (framesL (longN r) n)) (A : Int) a l j i)
 | 0, i, q + 1, hi, _, h => by omega
 | j + 1, i, q + 1, hi, hq, _ => by
  have hs1 := o.some1
  have hsum := o.sum
  have hA := o.at'
  have hfile := o.file
  have hlt : i < l.length := by omega
  have e1 : Ae (i : Int) 1 = ((i + 1 : Nat) : Int) := by rw [Ag (by omega) (by omega)]; omega
  rw [Hy, Uk, e1, Ats hs1.2 o.five o.sum _ _ _ _ _ (A : Int) (by omega) (by omega) (i + 1) (by omega), Aa, Auu]
  by_cases h : a < (A : Int) + (l.take (i + 1)).sum
  ·rw [if_neg (by rw [Dv, decide_eq_true_eq]; omega), if_pos h, Tr, Ac3, Axk o.shape o.fit i (by rw [← o.len]; omega), Aa]
  ·rw [if_pos (by rw [Dv, decide_eq_true_eq]; omega), if_neg h]
   refine Aq4 a ha ha2 j (i + 1) q (by omega) (by omega) ?_
   by_cases hj : j = 0
   ·exfalso
    rw [show i + 1 = l.length by omega, List.take_length] at h
    exact h ha2
   ·omega
theorem Bd1 (good : Nat → Int) (a : Int) (ha2 : (A : Int) + l.sum ≤ a) : ∀ (j i : Nat), i + j = l.length → Auu good (A : Int) a l j i = (0, 6, 0, 0, 0)
 | 0, i, _ => rfl
 | j + 1, i, hi => by
  have b2 := Eb o.five (i + 1)
  rw [Auu, if_neg (by omega)]
  exact Bd1 good a ha2 j (i + 1) (by omega)
theorem Boe (h : (Azc b p f c w r n A l).2.2.2.2 = 0) : (A : Int) + l.sum ≤ b.length := by
 have hs1 := o.some1
 have key : ∀ (j k : Nat) (acc : List Int32), k + j = l.length → 1 ≤ j → (Baa (fun k => smF w (At6 b p f c w r n A l k)) (fun k => (At6 b p f c w r n A l k).2) (Bl0 b A l) j k acc).2 = 0 → (A : Int) + l.sum ≤ b.length := by
  intro j
  induction j with
  | zero => intro k acc _ h; omega
  | succ j ih =>
   intro k acc hk _ h
   obtain ⟨m, x, s, e, g⟩ := Ak0 o k (by omega)
   rw [Baa] at h
   by_cases he : (At6 b p f c w r n A l k).2 ≠ 0
   ·rw [if_pos he] at h; exact absurd h he
   ·rw [if_neg he] at h
    by_cases hj : j = 0
    ·rw [g.eq] at he
     have := (g.some' (by simpa using he)).2.2.2.2
     rw [show k + 1 = l.length by omega, List.take_length] at this
     exact this
    ·exact ih (k + 1) _ (by omega) (by omega) h
 rw [Azc, Ant] at h
 refine key l.length 0 [] (by omega) hs1.1 ?_
 split at h
 ·simpa [Asw] using h
 ·rename_i h2; simpa using h2
end
theorem Bh4 (b p : List UInt8) (hb : b.length ≤ 100100) (hp2 : p.length ≤ 1000) (a : Int) : ∃ y : D5, Mx b p a = some y ∧ Gc b p a = some y := by
 have hP : Mx b p a = Mx b p a := rfl
 have hR : Gc b p a = Gc b p a := rfl
 conv at hP => rhs; rw [Mx, Afu, Aeq]
 conv at hR => rhs; rw [Gc, Uf, Lj]
 have hbad : ∀ y : C5, Ky b p = some y → Dk b p = some y → y.2.2.2.2 ≠ 0 → ∃ y : D5, Mx b p a = some y ∧ Gc b p a = some y := by
  intro y h3 h4 he
  rw [h3, Aa, Aa] at hP
  rw [h4, Aa, Aa] at hR
  rw [if_pos (by rw [Ah]; simpa using he)] at hP hR
  exact ⟨_, hP, hR⟩
 by_cases h64 : 64 < p.length
 ·refine hbad (Asw 2) ?_ ?_ (by simp [Asw])
  ·rw [Ky, Aec, if_pos (by rw [Ax, Ac]; simp; omega)]; rfl
  ·rw [Dk, Nj, if_pos (by rw [Ax, Ac]; simp; omega)]; rfl
 have hp : p.length ≤ 64 := by omega
 rcases Bjg b p hb hp with ⟨e, he, h1, h2, h3, h4⟩ | ⟨f, c, w, r, n, A, l, o, h3, h4⟩
 ·exact hbad _ h3 h4 (by simpa [Asw] using he)
 ·by_cases hce : (Azc b p f c w r n A l).2.2.2.2 ≠ 0
  ·exact hbad _ h3 h4 hce
  ·have hc0 : (Azc b p f c w r n A l).2.2.2.2 = 0 := by simpa using hce
   have hfit := Boe o hc0
   obtain ⟨k1, k2⟩ := Bh7 o hfit
   have hs1 := o.some1
   have hsum := o.sum
   have hfile := o.file
   rw [h3, Aa, Aa, hc0, if_neg (by rw [Ah]; simp)] at hP
   rw [h4, Aa, Aa, hc0, if_neg (by rw [Ah]; simp)] at hR
   by_cases hr : a < 0 ∨ (b.length : Int) ≤ a
   ·rw [if_pos (by simp [Af, Dv, Ac]; omega)] at hP hR
    exact ⟨_, hP, hR⟩
   ·rw [if_neg (by simp [Af, Dv, Ac]; omega)] at hP hR
    rw [k1, Aa] at hP
    rw [k2, Aa] at hR
    simp only at hP hR
    rw [if_neg (by rw [Ah]; simp), o.prog, Aa] at hP
    simp only at hP
    rw [if_neg (by rw [Ah]; simp)] at hP
    by_cases c1 : a < (frontS b).1
    ·rw [if_pos (by rw [Af]; simpa using c1)] at hP hR
     exact ⟨_, hP, hR⟩
    rw [if_neg (by rw [Af]; simpa using c1)] at hP hR
    by_cases c2 : a < (frontS b).1 + 22
    ·rw [if_pos (by rw [Af]; simpa using c2)] at hP hR
     exact ⟨_, hP, hR⟩
    rw [if_neg (by rw [Af]; simpa using c2)] at hP hR
    by_cases c3 : a < (A : Int) - 4 * (l.length : Int) - 4
    ·rw [if_pos (by rw [Af]; simpa using c3)] at hP hR
     exact ⟨_, hP, hR⟩
    rw [if_neg (by rw [Af]; simpa using c3)] at hP hR
    by_cases c4 : a < (A : Int)
    ·rw [if_pos (by rw [Af]; simpa using c4)] at hP hR
     exact ⟨_, hP, hR⟩
    rw [if_neg (by rw [Af]; simpa using c4)] at hP hR
    have hl := Bb8 o a (by omega) (by omega) l.length 0 Az (by omega) (by have := Am; omega)
    rw [List.take_zero, List.sum_nil, Int.add_zero] at hl
    have hP2 : Mx b p a = some (Auu (Anw c w (framesL (longN r) n)) (A : Int) a l l.length 0) := hP.trans hl
    by_cases c5 : (A : Int) + l.sum ≤ a
    ·rw [if_pos (by rw [Dv]; simpa using c5)] at hR
     rw [Bd1 o _ a c5 l.length 0 (by omega)] at hP2
     exact ⟨_, hP2, hR⟩
    ·rw [if_neg (by rw [Dv]; simpa using c5), Ayc hp o.ref, Aa] at hR
     simp only at hR
     exact ⟨_, hP2, hR.trans (Aq4 o a (by omega) (by omega) l.length 0 Az (by omega) (by have := Am; omega) hs1.1)⟩
theorem Bdz (a : UInt8) : geq a a = true := by rw [Akk]; simp
theorem law_DamageTells (b p : List UInt8) (a : Int) : Ox b p a = some true := by
 rw [Ox, Abx, Aa]
 by_cases h : (((Gy (Ac b) (5000 : Int)) && (Cu (Ac b) (12000 : Int))) || (Gy (Ac b) (12100 : Int)) || (Gy (Ac p) (100 : Int))) = true
 ·rw [if_pos h]
 ·have hb : b.length ≤ 12100 ∧ p.length ≤ 100 := by
   simp [Ax, Af, Ac] at h; omega
  obtain ⟨⟨y1, y2, y3, y4, y5⟩, h1, h2⟩ := Blq b p (by omega) (by omega)
  obtain ⟨⟨z1, z2, z3, z4, z5⟩, h3, h4⟩ := Bh4 b p (by omega) (by omega) a
  have e : ∀ a : Int, geq a a = true := fun a => by rw [Bg]; simp
  rw [if_neg h, h1, h2, h3, h4]
  simp only [Aa, e, Bdz]
  rfl
end Go.Pl
