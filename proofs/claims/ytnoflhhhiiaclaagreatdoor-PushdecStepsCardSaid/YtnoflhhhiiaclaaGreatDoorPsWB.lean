/- A part of the proof of a statement of this seat (see the text that ends in Proof): LwSeek, LwOpen, LwFrame, LwBack, LwGot, LwWs, LwGoes, LwPol, LwRt, LwClip, LwPts, LwTrc, LwPd, LwDt, LwDu, LwNn, LwHdI, LwFit, LwFitC, LwStart, LwChk, LwChkT, LwChkF, LwPc, LwTake, LwGre, LwSteps. No conditions of its own. -/
import Derived.Test.YtnoflhhhiiaclaaGreatDoorPsWA
set_option linter.unusedVariables false
set_option linter.unusedSimpArgs false
namespace Go.Pl
open Go Go.Lv
def okL : List Int → Int → Bool
 | [], _ => true
 | x :: l, left => decide (5 ≤ x ∧ x ≤ left) && okL l (left - x)
theorem Bvq : ∀ l : List Int, (∀ x ∈ l, 5 ≤ x) → 0 ≤ l.sum
 | [], _ => by simp
 | x :: l, h => by
  have h1 := h x List.mem_cons_self
  have h2 := Bvq l fun y hy => h y (List.mem_cons_of_mem _ hy)
  rw [List.sum_cons]; omega
theorem Aqx : ∀ (l : List Int) (left : Int), 0 ≤ left → (okL l left = true ↔ (∀ x ∈ l, 5 ≤ x) ∧ l.sum ≤ left)
 | [], left, h => by simp [okL]; exact h
 | x :: l, left, h => by
  rw [okL, Bool.and_eq_true, decide_eq_true_eq, List.sum_cons]
  by_cases hx : 5 ≤ x ∧ x ≤ left
  ·rw [Aqx l (left - x) (by omega)]
   constructor
   ·rintro ⟨_, h1, h2⟩
    exact ⟨fun y hy => (List.mem_cons.1 hy).elim (fun e => e ▸ hx.1) (h1 y), by omega⟩
   ·rintro ⟨h1, h2⟩
    exact ⟨hx, fun y hy => h1 y (List.mem_cons_of_mem _ hy), by omega⟩
  ·constructor
   ·rintro ⟨h1, _⟩; exact absurd h1 hx
   ·rintro ⟨h1, h2⟩
    have h3 := h1 x List.mem_cons_self
    have : 0 ≤ l.sum := Bvq l fun y hy => h1 y (List.mem_cons_of_mem _ hy)
    omega
theorem Ayu (l : List Int) (hl : l.length ≤ 1000) : ∀ (j i q : Nat) (left : Int), i + j = l.length → j < q → 0 ≤ left → left ≤ 100000 → Rj l q left (i : Int) = some (if okL (l.drop i) left = true then 0 else 8)
 | 0, i, q + 1, left, hi, _, _, _ => by
  rw [Rj, Aca, if_neg (by rw [Ae, Ac]; simp; omega), show i = l.length by omega, List.drop_length]; rfl
 | j + 1, i, q + 1, left, hi, hq, h0, h1 => by
  have hlt : i < l.length := by omega
  rw [Rj, Aca, if_pos (by rw [Ae, Ac]; simp; omega), Cl hlt, Aa, drop_cons hlt]
  by_cases h : 5 ≤ l[i] ∧ l[i] ≤ left
  ·rw [if_neg (by simp [Ae, As]; omega), Bt (by omega) (by omega), Ah (by omega) (by omega)]
   have ih := Ayu l hl j (i + 1) q (left - l[i]) (by omega) (by omega) (by omega) (by omega)
   rw [show ((i : Int) + 1) = ((i + 1 : Nat) : Int) by omega, ih]
   simp [okL, h]
  ·rw [if_pos (by simp [Ae, As]; omega)]
   have : okL (l[i] :: l.drop (i + 1)) left = false := by rw [okL, decide_eq_false h]; rfl
   rw [this]; rfl
def tabB (l : List Int) : Bool := decide (1 ≤ l.length ∧ l.length ≤ 1000) && okL l 100000
theorem Bd2 (l : List Int) (hl : l.length ≤ 1000) : Sd l = some (if tabB l = true then 0 else 8) := by
 rw [Sd, Adq, tabB]
 by_cases h : 1 ≤ l.length
 ·rw [if_neg (by rw [Az, As, Ac]; simp; constructor; (intro e; subst e; simp at h); omega), Ai2]
  have := Ayu l hl l.length 0 Ay 100000 (by omega) (by have := Aq; omega) (by omega) (by omega)
  rw [List.drop_zero] at this
  rw [decide_eq_true (show 1 ≤ l.length ∧ l.length ≤ 1000 from ⟨h, hl⟩), Bool.true_and]
  exact this
 ·have : l = [] := by
   cases l with
   | nil => rfl
   | cons _ _ => simp at h
  subst this; rfl
theorem Bav (l : List Int) (hl : l.length ≤ 1000) : ∀ (j i q : Nat) (s : Int), i + j = l.length → j < q → 0 ≤ s → s ≤ 100000 * (i : Int) → Gc l q s (i : Int) = some (if (∀ x ∈ l.drop i, 5 ≤ x ∧ x ≤ 100000) ∧ s + (l.drop i).sum ≤ 100000 then 0 else 8)
 | 0, i, q + 1, s, hi, _, _, _ => by
  rw [Gc, Nf, if_neg (by rw [Ae, Ac]; simp; omega), show i = l.length by omega, List.drop_length, Tr, Ab1]
  by_cases h : s ≤ 100000
  ·rw [if_neg (by rw [As]; simp; omega), if_pos (by simp; omega)]
  ·rw [if_pos (by rw [As]; simp; omega), if_neg (by simp; omega)]
 | j + 1, i, q + 1, s, hi, hq, h0, h1 => by
  have hlt : i < l.length := by omega
  rw [Gc, Nf, if_pos (by rw [Ae, Ac]; simp; omega), Cl hlt, Aa, drop_cons hlt]
  by_cases h5 : l[i] < 5
  ·rw [if_pos (by rw [Ae]; simpa using h5), if_neg (fun h => by have := (h.1 l[i] List.mem_cons_self).1; omega)]
  ·rw [if_neg (by rw [Ae]; simpa using h5), Aa]
   by_cases h6 : 100000 < l[i]
   ·rw [if_pos (by rw [As]; simpa using h6), if_neg (fun h => by have := (h.1 l[i] List.mem_cons_self).2; omega)]
   ·rw [if_neg (by rw [As]; simpa using h6), Vt, Ad0, Cl hlt, Aa, Ah (by omega) (by omega), Ah (by omega) (by omega)]
    have ih := Bav l hl j (i + 1) q (s + l[i]) (by omega) (by omega) (by omega) (by omega)
    rw [show ((i : Int) + 1) = ((i + 1 : Nat) : Int) by omega, ih]
    have e : ((∀ x ∈ l.drop (i + 1), 5 ≤ x ∧ x ≤ 100000) ∧ s + l[i] + (l.drop (i + 1)).sum ≤ 100000) ↔ ((∀ x ∈ l[i] :: l.drop (i + 1), 5 ≤ x ∧ x ≤ 100000) ∧ s + (l[i] :: l.drop (i + 1)).sum ≤ 100000) := by
     rw [List.sum_cons, List.forall_mem_cons, Int.add_assoc]
     constructor
     ·rintro ⟨a, b⟩; exact ⟨⟨by omega, a⟩, b⟩
     ·rintro ⟨⟨_, a⟩, b⟩; exact ⟨a, b⟩
    simp only [e]
theorem Bct : ∀ {l : List Int}, (∀ x ∈ l, 5 ≤ x) → ∀ x ∈ l, x ≤ l.sum
 | [], _, x, hx => by simp at hx
 | y :: l, h, x, hx => by
  have h1 := h y List.mem_cons_self
  have h2 := Bvq l fun z hz => h z (List.mem_cons_of_mem _ hz)
  rw [List.sum_cons]
  rcases List.mem_cons.1 hx with rfl | hx
  ·omega
  ·have := Bct (l := l) (fun z hz => h z (List.mem_cons_of_mem _ hz)) x hx
   omega
theorem Bhg (l : List Int) (hl : l.length ≤ 1000) : Ew l = some (if tabB l = true then 0 else 8) := by
 rw [Ew, Nb, tabB]
 by_cases h : 1 ≤ l.length
 ·have := Bav l hl l.length 0 Ay 0 (by omega) (by have := Aq; omega) (by omega) (by omega)
  rw [if_neg (by rw [Ae, As, Ac]; simp; omega), Uu]
  refine Eq.trans this ?_
  rw [List.drop_zero, decide_eq_true (show 1 ≤ l.length ∧ l.length ≤ 1000 from ⟨h, hl⟩), Bool.true_and]
  have e : ((∀ x ∈ l, 5 ≤ x ∧ x ≤ 100000) ∧ 0 + l.sum ≤ 100000) ↔ okL l 100000 = true := by
   rw [Aqx l 100000 (by omega), Int.zero_add]
   constructor
   ·rintro ⟨a, b⟩; exact ⟨fun x hx => (a x hx).1, b⟩
   ·rintro ⟨a, b⟩; exact ⟨fun x hx => ⟨a x hx, Int.le_trans (Bct a x hx) b⟩, b⟩
  simp only [e]
 ·have : l = [] := by
   cases l with
   | nil => rfl
   | cons _ _ => simp at h
  subst this; rfl
theorem Ap2 (l : List Int) : Sd l = some (if tabB l = true then 0 else 8) := by
 by_cases hl : l.length ≤ 1000
 ·exact Bd2 l hl
 ·rw [Sd, Adq, if_pos (by rw [As, Ac]; simp; omega), tabB, decide_eq_false (by omega)]; rfl
theorem Arh (l : List Int) : Ew l = some (if tabB l = true then 0 else 8) := by
 by_cases hl : l.length ≤ 1000
 ·exact Bhg l hl
 ·rw [Ew, Nb, if_pos (by rw [As, Ac]; simp; omega), tabB, decide_eq_false (by omega)]; rfl
theorem Bhs (l : List Int) (hl : l.length ≤ 1000) (hx : ∀ x ∈ l, 0 ≤ x ∧ x < 4294967296) : Sd l = some (if tabB l = true then 0 else 8) := Ap2 l
theorem Bm5 (l : List Int) (hl : l.length ≤ 1000) (hx : ∀ x ∈ l, 0 ≤ x ∧ x < 4294967296) : Ew l = some (if tabB l = true then 0 else 8) := Arh l
def Aks (b : List UInt8) (n : Nat) : List Int := (List.range n).map fun i => (Du (part b (4 * i) 4) : Int)
theorem Af9 (b : List UInt8) (n : Nat) : (Aks b n).length = n := by simp [Aks]
theorem Bbe (b : List UInt8) (n : Nat) : Aks b (n + 1) = Aks b n ++ [(Du (part b (4 * n) 4) : Int)] := by simp [Aks, List.range_succ]
theorem Bjv (b : List UInt8) (n : Nat) (h : 4 * n ≤ b.length) : ∀ x ∈ Aks b n, 0 ≤ x ∧ x < 4294967296 := by
 intro x hx
 simp only [Aks, List.mem_map, List.mem_range] at hx
 obtain ⟨i, hi, rfl⟩ := hx
 have := Blf (l := part b (4 * i) 4) (by rw [Cu (by omega)]; omega)
 omega
def Ni (b : List UInt8) (n : Nat) : List Int × Int :=
 if ¬ (1 ≤ n ∧ n ≤ 1000) then ([], 2) else if b.length < 4 * n + 4 then ([], 24) else if (Hq (b.take (4 * n))).toNat ≠ Du (part b (4 * n) 4) then ([], 22) else
 if tabB (Aks b n) = true then (Aks b n, 0) else ([], 12)
theorem Bk5 {b : List UInt8} {n : Nat} (h : 1 ≤ n ∧ n ≤ 1000) (h2 : ¬ b.length < 4 * n + 4) : Bn (Ad (Hq (b.take (4 * n))) : UInt64) (leU (part b (4 * n) 4)) = decide ((Hq (b.take (4 * n))).toNat ≠ Du (part b (4 * n) 4)) := by
 rw [Ahz, Ik, Bool.eq_iff_iff]
 simp only [bne_iff_ne, ne_eq, decide_eq_true_eq]
 rw [← UInt64.toNat_inj, Aj8 (by have := (Hq (b.take (4 * n))).toNat_lt; omega), Aj4 (by rw [Cu (by omega)]; omega)]
section
variable {b : List UInt8} {n : Nat}
theorem ss1 (h : ¬ (1 ≤ n ∧ n ≤ 1000)) : Ni b n = ([], 2) := by rw [Ni, if_pos h]
variable (h : 1 ≤ n ∧ n ≤ 1000)
include h
theorem ss2 (h2 : b.length < 4 * n + 4) : Ni b n = ([], 24) := by rw [Ni, if_neg (fun e => e h), if_pos h2]
variable (h2 : ¬ b.length < 4 * n + 4)
include h2
theorem ss3 (h3 : (Hq (b.take (4 * n))).toNat ≠ Du (part b (4 * n) 4)) : Ni b n = ([], 22) := by rw [Ni, if_neg (fun e => e h), if_neg h2, if_pos h3]
theorem ss4 (h3 : (Hq (b.take (4 * n))).toNat = Du (part b (4 * n) 4)) : Ni b n = if tabB (Aks b n) = true then (Aks b n, 0) else ([], 12) := by rw [Ni, if_neg (fun e => e h), if_neg h2, if_neg (fun e => e h3)]
end
theorem Bcn (b : List UInt8) (l8 : List Int) (n : Nat) (hn : n ≤ 1000) (h8 : l8.length = n) (hb : 4 * n + 4 ≤ b.length) (hb2 : b.length < 4611686018427387904) : ∀ (j i q : Nat), i + j = n → j < q → Um b l8 q (i : Int) (Aks b i ++ List.replicate j 0) = Afd (Aks b n)
 | 0, i, q + 1, hi, _ => by
  obtain rfl : i = n := by omega
  rw [Um, Ae7, if_neg (by rw [Ae, Ac]; simp; omega)]; simp
 | j + 1, i, q + 1, hi, hq => by
  have hlen : (Aks b i ++ List.replicate (j + 1) 0).length = i + (j + 1) := by simp [Af9]
  have ha := Bbg b (4 * i) 4 (by omega) (by omega) (by omega) hb2
  rw [Um, Ae7, if_pos (by rw [Ae, Ac]; simp; omega), Ip (by omega) (by omega), show (4 : Int) * (i : Int) = ((4 * i : Nat) : Int) by omega, show (4 : Int) = ((4 : Nat) : Int) from rfl, ha, Aa]
  simp only
  rw [Cl (by rw [hlen]; omega), Aa, Za _ (by rw [hlen]; omega), Aa, Afj (by rw [Cu (by omega)]; omega), Ah (by omega) (by omega), List.replicate_succ, Aqu (Af9 _ _)]
  have ih := Bcn b l8 n hn h8 hb hb2 j (i + 1) q (by omega) (by omega)
  rw [Bbe] at ih
  rw [show ((i : Int) + 1) = ((i + 1 : Nat) : Int) by omega, ← ih]
  simp
theorem Ba9 (b : List UInt8) (n : Nat) (hb : b.length ≤ 100100) : Ajl b (n : Int) = some (Ni b n) := by
 rw [Ajl, Akp]
 by_cases h : 1 ≤ n ∧ n ≤ 1000
 ·rw [if_neg (by simp [Ae, As]; omega), Ip (by omega) (by omega), Ah (by omega) (by omega)]
  by_cases h2 : b.length < 4 * n + 4
  ·rw [if_pos (by rw [Ae, Ac]; simp; omega), ss2 h h2]
  ·have ha : Ami b (4 * (n : Int)) 4 = some (leU (part b (4 * n) 4), 0) := by
    rw [show (4 : Int) * (n : Int) = ((4 * n : Nat) : Int) by omega]
    exact Bbg b (4 * n) 4 (by omega) (by omega) (by omega) (by omega)
   rw [if_neg (by rw [Ae, Ac]; simp; omega), ha, Aa]
   simp only
   rw [Dc (by omega) (by omega), Aa, show (4 * (n : Int)).toNat = 4 * n by omega, Bil _ (by simp; omega), Aa]
   simp only
   rw [Bk5 h h2]
   by_cases h3 : (Hq (b.take (4 * n))).toNat = Du (part b (4 * n) 4)
   ·have hlp := Bcn b (List.replicate n 0) n (by omega) (by simp) (by omega) (by omega) n 0 Ay (by omega) (by have := Aq; omega)
    rw [if_neg (by simpa using h3), Ays (by omega) (by omega), Aa, Cm (by rw [Az]; simp), Aa, Ak1, Int.toNat_natCast]
    refine Eq.trans (hlp) ?_
    rw [Afd, Arq, Bhs _ (by rw [Af9]; omega) (Bjv b n (by omega)), Aa, ss4 h h2 h3]
    cases tabB (Aks b n) <;> rfl
   ·rw [if_pos (by simpa using h3), ss3 h h2 h3]
 ·rw [if_pos (by simp [Ae, As]; omega), ss1 h]
theorem Aru (b : List UInt8) (n : Nat) (hn : n ≤ 1000) (hb : 4 * n + 4 ≤ b.length) (hb2 : b.length < 4611686018427387904) : ∀ (j i q : Nat), i + j = n → j < q → Hi b (n : Int) q (i : Int) (Aks b i) = Od (Aks b n)
 | 0, i, q + 1, hi, _ => by
  obtain rfl : i = n := by omega
  rw [Hi, Oy, if_neg (by rw [Ae]; simp)]
 | j + 1, i, q + 1, hi, hq => by
  have hc : Bb b ((4 : Int) * (i : Int)) ((4 : Int) * (i : Int) + 4) = some (part b (4 * i) 4) := by
   rw [show (4 : Int) * (i : Int) = ((4 * i : Nat) : Int) by omega]
   exact Oq (4 * i) 4 (by omega)
  rw [Hi, Oy, if_pos (by rw [Ae]; simp; omega), Ip (by omega) (by omega), Ah (by omega) (by omega), hc, Aa, Bg9 _ (by rw [Cu (by omega)]; omega), Aa, Cc (by rw [Af9]; simp; omega), Aa,
   Afj (by rw [Cu (by omega)]; omega), Ah (by omega) (by omega), ← Bbe]
  exact Aru b n hn hb hb2 j (i + 1) q (by omega) (by omega)
theorem Bnp (b : List UInt8) (n : Nat) (hb : b.length ≤ 100100) : Wm b (n : Int) = some (Ni b n) := by
 rw [Wm, Yg]
 by_cases h : 1 ≤ n ∧ n ≤ 1000
 ·rw [if_neg (by simp [Ae, As]; omega), Ip (by omega) (by omega), Ah (by omega) (by omega)]
  by_cases h2 : b.length < 4 * n + 4
  ·rw [if_pos (by rw [Ae, Ac]; simp; omega), ss2 h h2]
  ·have hc : Bb b ((4 : Int) * (n : Int)) ((4 : Int) * (n : Int) + 4) = some (part b (4 * n) 4) := by
    rw [show (4 : Int) * (n : Int) = ((4 * n : Nat) : Int) by omega]
    exact Oq (4 * n) 4 (by omega)
   have hs : Bn (leU (part b (4 * n) 4)) (Ad (Hq (b.take (4 * n))) : UInt64) = decide ((Hq (b.take (4 * n))).toNat ≠ Du (part b (4 * n) 4)) := by
    rw [← Bk5 h h2, Ahz, Ahz, Bool.eq_iff_iff]; simp only [bne_iff_ne, ne_eq]; exact not_congr eq_comm
   rw [if_neg (by rw [Ae, Ac]; simp; omega), hc, Aa, Dc (by omega) (by omega), Aa, show (4 * (n : Int)).toNat = 4 * n by omega, Bg9 _ (by rw [Cu (by omega)]; omega), Aa, Bn3 _ (by simp; omega), Aa, hs]
   by_cases h3 : (Hq (b.take (4 * n))).toNat = Du (part b (4 * n) 4)
   ·have hlp := Aru b n (by omega) (by omega) (by omega) n 0 Ay (by omega) (by have := Aq; omega)
    rw [if_neg (by simpa using h3), Yi, Wu, Xx]
    refine Eq.trans hlp ?_
    rw [Od, Agj, Bm5 _ (by rw [Af9]; omega) (Bjv b n (by omega)), Aa, ss4 h h2 h3]
    cases tabB (Aks b n) <;> rfl
   ·rw [if_pos (by simpa using h3), ss3 h h2 h3]
 ·rw [if_pos (by simp [Ae, As]; omega), ss1 h]
theorem Bgv {b : List UInt8} {n : Nat} (h : (Ni b n).2 = 0) : Ni b n = (Aks b n, 0) ∧ 1 ≤ n ∧ n ≤ 1000 ∧ 4 * n + 4 ≤ b.length ∧ (∀ x ∈ Aks b n, 5 ≤ x) ∧ (Aks b n).sum ≤ 100000 := by
 unfold Ni at h ⊢
 split at h; · simp at h
 rename_i c1; rw [if_neg c1]
 split at h; · simp at h
 rename_i c2; rw [if_neg c2]
 split at h; · simp at h
 rename_i c3; rw [if_neg c3]
 split at h
 ·rename_i c4
  rw [if_pos c4]
  have c4' := c4
  rw [tabB, Bool.and_eq_true, Aqx _ _ (by omega)] at c4'
  exact ⟨rfl, by omega, by omega, by omega, c4'.2.1, c4'.2.2⟩
 ·simp at h
end Go.Pl
set_option linter.unusedVariables false
set_option linter.unusedSimpArgs false
namespace Go.Pl
open Go Go.Lv
def hdr (b : List UInt8) : List UInt8 := b.drop (Gn b).1.toNat
theorem Bit (A K : Nat) (h : A ≤ 200000) (hk : K ≤ 1000) : Af (Af (A : Int) (Bp 4 (K : Int))) 4 = ((A + 4 * K + 4 : Nat) : Int) := by
 rw [Ip (by omega) (by omega), Ah (a := (A : Int)) (by omega) (by omega), Ah (by omega) (by omega)]; omega
end Go.Pl
set_option linter.unusedVariables false
set_option linter.unusedSimpArgs false
namespace Go.Pl
open Go Go.Lv
theorem Bmd (l : List Int) (i : Nat) : (l.take i).sum + (l.drop i).sum = l.sum := by
 conv => rhs; rw [← List.take_append_drop i l, List.sum_append]
theorem Ary {l : List Int} {i : Nat} (h : i < l.length) : (l.take (i + 1)).sum = (l.take i).sum + l[i] := by
 rw [Al4 h, List.sum_append]; simp
theorem Aso {g n : Nat} (hg : 1 ≤ g) (hn : 1 ≤ n) {x : Int} (h : x ∈ framesL g n) : ∃ m : Nat, x = m ∧ 1 ≤ m ∧ m ≤ n := by
 have hmul := Nat.div_mul_le_self (n - 1) g
 rw [framesL, List.mem_append] at h
 rcases h with h | h
 ·rw [List.mem_replicate] at h
  have h1 : 1 ≤ (n - 1) / g := Nat.pos_of_ne_zero h.1
  have := Nat.mul_le_mul_right g h1
  exact ⟨g, h.2, hg, by omega⟩
 ·rw [List.mem_singleton] at h
  exact ⟨_, h, by omega, by omega⟩
theorem At7 {f c w r n : Nat} (h : shapeB f c w r n = true) : (1 ≤ c ∧ c ≤ 6) ∧ Dg (w : Int) ∧ (1 ≤ r ∧ r ≤ 1048576) ∧ 1 ≤ n ∧ (f = 1 ∨ f = 2) := by
 simp only [shapeB, decide_eq_true_eq] at h
 refine ⟨h.2.1, ?_, h.2.2.2.1, h.2.2.2.2, h.1⟩
 rcases h.2.2.1 with rfl | rfl | rfl
 ·exact .inl rfl
 ·exact .inr (.inl rfl)
 ·exact .inr (.inr rfl)
end Go.Pl
set_option linter.unusedVariables false
set_option linter.unusedSimpArgs false
namespace Go.Pl
open Go Go.Lv
theorem Buc (n m : Nat) : Nr n m 0 ≠ Nr n m 2147483648 := by
 intro h
 simp [Nr, leB, APE] at h
def Bs (b : List UInt8) : List UInt8 := b.drop (b.length - 32)
theorem Bfd {b : List UInt8} (h : 32 ≤ b.length) : (Bs b).length = 32 := by rw [Bs, List.length_drop]; omega
def itA (t : List UInt8) : Nat := Du (part t 12 4) - 32
def mnA (t : List UInt8) : Nat := Du (part t 16 4)
def Yd (b : List UInt8) : Int × Int :=
 if ¬ (32 ≤ b.length ∧ (Bs b).take 8 = APE) then (0, 6) else if Aga (Bs b) = true then (0, 12) else
 if Bs b = Nr (itA (Bs b)) (mnA (Bs b)) 0 then (if b.length < itA (Bs b) + 32 then (0, 24) else (((itA (Bs b) + 32 : Nat) : Int), 0)) else
 if Bs b ≠ Nr (itA (Bs b)) (mnA (Bs b)) 2147483648 then (0, 12) else
 if b.length < itA (Bs b) + 64 then (0, 24) else
 if (b.take (b.length - (itA (Bs b) + 64) + 32)).drop (b.length - (itA (Bs b) + 64)) ≠ Nr (itA (Bs b)) (mnA (Bs b)) 2684354560 then (0, 12) else (((itA (Bs b) + 64 : Nat) : Int), 0)
section
variable {b : List UInt8}
theorem ba1 (h : ¬ (32 ≤ b.length ∧ (Bs b).take 8 = APE)) : Yd b = (0, 6) := by rw [Yd, if_pos h]
variable (h : 32 ≤ b.length ∧ (Bs b).take 8 = APE)
include h
theorem ba2 (h2 : Aga (Bs b) = true) : Yd b = (0, 12) := by rw [Yd, if_neg (fun h' => h' h), if_pos h2]
variable (h2 : Aga (Bs b) = false)
include h2
theorem ba3 (h3 : Bs b = Nr (itA (Bs b)) (mnA (Bs b)) 0) : Yd b = if b.length < itA (Bs b) + 32 then (0, 24) else (((itA (Bs b) + 32 : Nat) : Int), 0) := by
 rw [Yd, if_neg (fun h' => h' h), if_neg (by rw [h2]; simp), if_pos h3]
variable (h3 : Bs b ≠ Nr (itA (Bs b)) (mnA (Bs b)) 0)
include h3
theorem ba4 (h4 : Bs b ≠ Nr (itA (Bs b)) (mnA (Bs b)) 2147483648) : Yd b = (0, 12) := by
 rw [Yd, if_neg (fun h' => h' h), if_neg (by rw [h2]; simp), if_neg h3, if_pos h4]
variable (h4 : Bs b = Nr (itA (Bs b)) (mnA (Bs b)) 2147483648)
include h4
theorem ba5 (h5 : b.length < itA (Bs b) + 64) : Yd b = (0, 24) := by
 rw [Yd, if_neg (fun h' => h' h), if_neg (by rw [h2]; simp), if_neg h3, if_neg (fun e => e h4), if_pos h5]
theorem ba6 (h5 : ¬ b.length < itA (Bs b) + 64) : Yd b = if (b.take (b.length - (itA (Bs b) + 64) + 32)).drop (b.length - (itA (Bs b) + 64)) ≠ Nr (itA (Bs b)) (mnA (Bs b)) 2684354560 then (0, 12) else (((itA (Bs b) + 64 : Nat) : Int), 0) := by
 rw [Yd, if_neg (fun h' => h' h), if_neg (by rw [h2]; simp), if_neg h3, if_neg (fun e => e h4), if_neg h5]
end
theorem Bfl {b : List UInt8} {n : Int} (h : Yd b = (n, 0)) : 32 ≤ n ∧ n ≤ b.length := by
 unfold Yd at h
 split at h; · simp at h
 rename_i h32
 split at h; · simp at h
 split at h
 ·split at h; · simp at h
  simp only [Prod.mk.injEq, and_true] at h; omega
 split at h; · simp at h
 split at h; · simp at h
 split at h; · simp at h
 simp only [Prod.mk.injEq, and_true] at h; omega
theorem Bmt {b : List UInt8} (h : (Yd b).2 ≠ 0) : (Yd b).1 = 0 := by
 revert h
 unfold Yd
 split; · simp
 split; · simp
 split
 ·split <;> simp
 split; · simp
 split; · simp
 split <;> simp
theorem Bpk {b : List UInt8} (h : 32 ≤ b.length) (hl : b.length < 4611686018427387904) : Ao (Ac b) 32 = ((b.length - 32 : Nat) : Int) ∧ Bb b ((b.length - 32 : Nat) : Int) (Ac b) = some (Bs b) := by
 refine ⟨by rw [Ac, Bt (by omega) (by omega)]; omega, ?_⟩
 rw [Cp (by omega) (by omega)]; rfl
theorem Bmb (b : List UInt8) (hl : b.length < 4611686018427387904) : Ati b = some (Yd b) := by
 rw [Ati, Ao5]
 by_cases h32 : 32 ≤ b.length
 ·obtain ⟨e1, e2⟩ := Bpk h32 hl
  have hl3 := Bfd h32
  rw [if_neg (by rw [e1, Ae]; simp), e1, e2, Aa, An3, Aa]
  by_cases hp : (Bs b).take 8 = APE
  ·have h := And.intro h32 hp
   rw [if_neg (by simpa [APE, hl3] using hp), Apz, Avx, e1, e2, Aa, Anq _ 0 (by omega) (by omega) (by decide), Aa]
   cases hb : Aga (Bs b) with
   | true =>
    rw [ba2 h hb]
    simp only [if_true, Bool.false_eq_true, if_false]
    rw [Aa, Anq _ 2147483648 (by omega) (by omega) (by decide), Aa, hb]; rfl
   | false =>
    obtain ⟨i1, i2, i3, i4⟩ := Auh (Bs b) (by omega) hb
    have eI : Du (part (Bs b) 12 4) - 32 = itA (Bs b) := rfl
    have eM : Du (part (Bs b) 16 4) = mnA (Bs b) := rfl
    simp only [Bool.false_eq_true, if_false]
    rw [eI] at i3
    rw [eM] at i4
    rw [eI, eM]
    by_cases c1 : Bs b = Nr (itA (Bs b)) (mnA (Bs b)) 0
    ·have c1' : Bs b = Nr (itA (Bs b)) (mnA (Bs b)) (0 : UInt64).toNat := c1
     rw [if_pos (by simpa using c1'), ba3 h hb c1]
     by_cases c2 : b.length < itA (Bs b) + 32
     ·rw [if_pos (by rw [Ae]; simp; omega), if_pos c2]
     ·rw [if_neg (by rw [Ae]; simp; omega), if_neg c2, Ah (by omega) (by omega)]; rfl
    ·have c1' : ¬ Bs b = Nr (itA (Bs b)) (mnA (Bs b)) (0 : UInt64).toNat := c1
     rw [if_neg (by simpa using c1'), Aa, Anq _ 2147483648 (by omega) (by omega) (by decide), Aa, hb]
     simp only [Bool.false_eq_true, if_false]
     rw [eI, eM]
     by_cases c2 : Bs b = Nr (itA (Bs b)) (mnA (Bs b)) 2147483648
     ·have c2' : Bs b = Nr (itA (Bs b)) (mnA (Bs b)) (2147483648 : UInt64).toNat := c2
      rw [if_neg (by simpa using c2'), Ah (by omega) (by omega)]
      by_cases c3 : b.length < itA (Bs b) + 64
      ·rw [if_pos (by rw [Ae, Ac]; simp; omega), ba5 h hb c1 c2 c3]
      ·rw [if_neg (by rw [Ae, Ac]; simp; omega), Ac, Bt (by omega) (by omega), Ah (by omega) (by omega), Ag2 (by omega) (by omega) (by omega), Aa, Azx _ _ _ i3 i4 (by decide), Aa, Il, Aa, ba6 h hb c1 c2 c3]
       rw [show ((b.length : Int) - (((itA (Bs b) : Nat) : Int) + 64)).toNat = b.length - (itA (Bs b) + 64) by omega, show ((b.length : Int) - (((itA (Bs b) : Nat) : Int) + 64) + 32).toNat = b.length - (itA (Bs b) + 64) + 32 by omega]
       have e7 : (2684354560 : UInt64).toNat = 2684354560 := rfl
       rw [e7]
       by_cases c4 : (b.take (b.length - (itA (Bs b) + 64) + 32)).drop (b.length - (itA (Bs b) + 64)) = Nr (itA (Bs b)) (mnA (Bs b)) 2684354560
       ·rw [if_neg (by simpa using c4), if_neg (fun e => e c4)]; rfl
       ·rw [if_pos (by simpa using c4), if_pos c4]
     ·have c2' : ¬ Bs b = Nr (itA (Bs b)) (mnA (Bs b)) (2147483648 : UInt64).toNat := c2
      rw [if_pos (by simpa using c2'), ba4 h hb c1 c2]
  ·rw [if_pos (by rw [Bool.not_eq_true', decide_eq_false_iff_not]; intro h; exact hp h.2), ba1 (fun h => hp h.2)]
 ·rw [if_pos (by rw [Ac, Bt (by omega) (by omega), Ae]; simp; omega), ba1 (fun h => h32 h.1)]
theorem Bsm {b : List UInt8} (h : 32 ≤ b.length) : (b.take (b.length - 32 + 8)).drop (b.length - 32) = (Bs b).take 8 := by
 rw [Bs, List.take_drop]
theorem Bo6 (b : List UInt8) (hl : b.length < 4611686018427387904) : Wn b = some (Yd b) := by
 rw [Wn, Wr]
 by_cases h32 : 32 ≤ b.length
 ·obtain ⟨e1, e2⟩ := Bpk h32 hl
  have hl3 := Bfd h32
  rw [if_neg (by rw [Ae, Ac]; simp; omega), e1, Ah (by omega) (by omega), Ag2 (by omega) (by omega) (by omega), Aa, show ((b.length - 32 : Nat) : Int).toNat = b.length - 32 from rfl, show (((b.length - 32 : Nat) : Int) + 8).toNat = b.length - 32 + 8 by omega, Bsm h32]
  by_cases hp : (Bs b).take 8 = APE
  ·have h := And.intro h32 hp
   rw [if_neg (by simpa [APE] using hp), Xp, Pc, e1, e2, Aa, Bg1 _ (by omega) (by omega), Aa]
   cases hb : Aga (Bs b) with
   | true => rw [ba2 h hb]; rfl
   | false =>
    obtain ⟨i1, i2, i3, i4⟩ := Auh (Bs b) (by omega) hb
    have eI : Du (part (Bs b) 12 4) - 32 = itA (Bs b) := rfl
    have eM : Du (part (Bs b) 16 4) = mnA (Bs b) := rfl
    simp only [Bool.false_eq_true, if_false, Bool.not_true]
    rw [eI] at i3
    rw [eM] at i4
    rw [eI, eM, De, if_pos rfl, Atg _ _ _ i3 i4 (by decide), Aa, Aa]
    have e7 : (2147483648 : UInt64).toNat = 2147483648 := rfl
    have e8 : (2684354560 : UInt64).toNat = 2684354560 := rfl
    rw [e7]
    by_cases c2 : Bs b = Nr (itA (Bs b)) (mnA (Bs b)) 2147483648
    ·have c1 : Bs b ≠ Nr (itA (Bs b)) (mnA (Bs b)) 0 := fun e => Buc (itA (Bs b)) (mnA (Bs b)) (e.symm.trans c2)
     rw [if_neg (by simpa using c2), Og, Pb, if_pos (by simpa using c2), Oj, Xj, Ah (a := 32) (by omega) (by omega), Ah (by omega) (by omega)]
     by_cases c3 : b.length < itA (Bs b) + 64
     ·rw [if_pos (by rw [Ae, Ac]; simp; omega), ba5 h hb c1 c2 c3]
     ·rw [if_neg (by rw [Ae, Ac]; simp; omega), if_pos (by simpa using c2), Ac, Bt (by omega) (by omega), Ah (by omega) (by omega), Ag2 (by omega) (by omega) (by omega), Aa, Pf, Atg _ _ _ i3 i4 (by decide), Aa, Aa, ba6 h hb c1 c2 c3, e8]
      rw [show ((b.length : Int) - (32 + ((itA (Bs b) : Nat) : Int) + 32)).toNat = b.length - (itA (Bs b) + 64) by omega, show ((b.length : Int) - (32 + ((itA (Bs b) : Nat) : Int) + 32) + 32).toNat = b.length - (itA (Bs b) + 64) + 32 by omega]
      by_cases c4 : (b.take (b.length - (itA (Bs b) + 64) + 32)).drop (b.length - (itA (Bs b) + 64)) = Nr (itA (Bs b)) (mnA (Bs b)) 2684354560
      ·rw [if_neg (by simpa using c4), if_neg (fun e => e c4), show (32 + ((itA (Bs b) : Nat) : Int) + 32) = ((itA (Bs b) + 64 : Nat) : Int) by omega]
      ·rw [if_pos (by simpa using c4), if_pos c4]
    ·rw [if_pos (by simpa using c2), De, if_neg (by simp), Atg _ _ _ i3 i4 (by decide), Aa, Aa]
     have e9 : (0 : UInt64).toNat = 0 := rfl
     rw [e9]
     by_cases c1 : Bs b = Nr (itA (Bs b)) (mnA (Bs b)) 0
     ·rw [if_neg (by simpa using c1), Og, Pb, if_neg (by simpa using c2), Oj, Xj, Ah (by omega) (by omega), ba3 h hb c1, if_neg (c := (Bs b == Nr (itA (Bs b)) (mnA (Bs b)) 2147483648) = true) (by simpa using c2)]
      by_cases c3 : b.length < itA (Bs b) + 32
      ·rw [if_pos (by rw [Ae, Ac]; simp; omega), if_pos c3]
      ·rw [if_neg (by rw [Ae, Ac]; simp; omega), if_neg c3, show (32 + ((itA (Bs b) : Nat) : Int)) = ((itA (Bs b) + 32 : Nat) : Int) by omega]
     ·rw [if_pos (by simpa using c1), ba4 h hb c1 c2]
  ·rw [if_pos (by simpa [APE] using hp), ba1 (fun h => hp h.2)]
 ·rw [if_pos (by rw [Ae, Ac]; simp; omega), ba1 (fun h => h32 h.1)]
def Bd0 : Nat → List UInt8 → Nat → Int × Int
 | 0, _, _ => (0, 38)
 | j + 1, b, a => if b = [] then ((a : Int), 0) else if (Yd b).2 ≠ 0 then (0, 38) else Bd0 j (b.take (b.length - (Yd b).1.toNat)) (a + 1)
theorem Bgr : ∀ (j q a : Nat) (b : List UInt8), b.length < j → j ≤ q → b.length ≤ 4000 → a + b.length ≤ 4000 → Uf q (a : Int) b = some (Bd0 j b a)
 | 0, _, _, _, h, _, _, _ => by omega
 | j + 1, q + 1, a, b, h, hq, h4, ha => by
  rw [Uf, Ag9, Bd0]
  by_cases hb : b = []
  ·subst hb; rw [if_neg (by decide), if_pos rfl]; rfl
  ·have hpos : 0 < b.length := List.length_pos_iff.2 hb
   rw [if_pos (by rw [As, Ac]; simp; omega), if_neg hb, Bmb b (by omega), Aa]
   have hbad := Bmt (b := b)
   have hok := fun n => Bfl (b := b) (n := n)
   generalize Yd b = v at *
   obtain ⟨n, e⟩ := v
   simp only at hbad ⊢
   rw [Ae0, Aeh]
   by_cases he : e ≠ 0
   ·rw [if_pos he, hbad he, if_pos (by decide)]
   ·obtain ⟨k1, k2⟩ := hok n (by rw [show e = 0 by simpa using he])
    rw [if_neg he, if_neg (by rw [Az]; simp; omega), Ac, Bt (by omega) (by omega), Dc (by omega) (by omega), Aa, Aez, Amg, Ah (by omega) (by omega)]
    rw [show ((b.length : Int) - n).toNat = b.length - n.toNat by omega]
    have ih := Bgr j q (a + 1) (b.take (b.length - n.toNat)) (by rw [List.length_take]; omega) (by omega) (by rw [List.length_take]; omega) (by rw [List.length_take]; omega)
    rw [← ih]; rfl
theorem Bk4 : ∀ (j q a : Nat) (b : List UInt8), b.length < j → j ≤ q → b.length ≤ 4000 → a + b.length ≤ 4000 → Hw q b (a : Int) = some (Bd0 j b a)
 | 0, _, _, _, h, _, _, _ => by omega
 | j + 1, q + 1, a, b, h, hq, h4, ha => by
  rw [Hw, To, Bd0]
  by_cases hb : b = []
  ·subst hb; rw [if_neg (by decide), if_pos rfl]; rfl
  ·have hpos : 0 < b.length := List.length_pos_iff.2 hb
   rw [if_pos (by rw [As, Ac]; simp; omega), if_neg hb, Bo6 b (by omega), Aa]
   have hok := fun n => Bfl (b := b) (n := n)
   generalize Yd b = v at *
   obtain ⟨n, e⟩ := v
   simp only
   by_cases he : e ≠ 0
   ·rw [if_pos he, if_pos (by rw [Aj]; simpa using he)]
   ·obtain ⟨k1, k2⟩ := hok n (by rw [show e = 0 by simpa using he])
    rw [if_neg he, if_neg (by rw [Aj]; simpa using he), Ac, Bt (by omega) (by omega), Dc (by omega) (by omega), Aa, Ah (by omega) (by omega)]
    rw [show ((b.length : Int) - n).toNat = b.length - n.toNat by omega]
    have ih := Bk4 j q (a + 1) (b.take (b.length - n.toNat)) (by rw [List.length_take]; omega) (by omega) (by rw [List.length_take]; omega) (by rw [List.length_take]; omega)
    rw [← ih]; rfl
def Aj3 (b : List UInt8) : Int × Int := if 4000 < b.length then (0, 38) else Bd0 (b.length + 1) b 0
theorem Beu (b : List UInt8) (hl : b.length < 4611686018427387904) : Ahq b = some (Aj3 b) := by
 rw [Ahq, Agy, Aj3]
 by_cases h : 4000 < b.length
 ·rw [if_pos (by rw [As, Ac]; simp; omega), if_pos h]
 ·rw [if_neg (by rw [As, Ac]; simp; omega), if_neg h]
  exact Bgr _ Ay 0 b (by omega) (by have := Aq; omega) (by omega) (by omega)
theorem Bh4 (b : List UInt8) (hl : b.length < 4611686018427387904) : Qg b = some (Aj3 b) := by
 rw [Qg, Ua, Aj3]
 by_cases h : 4000 < b.length
 ·rw [if_pos (by rw [As, Ac]; simp; omega), if_pos h]
 ·rw [if_neg (by rw [As, Ac]; simp; omega), if_neg h]
  exact Bk4 _ Ay 0 b (by omega) (by have := Aq; omega) (by omega) (by omega)
end Go.Pl
set_option linter.unusedVariables false
set_option linter.unusedSimpArgs false
namespace Go.Pl
open Go Go.Lv
theorem Bvy {a b : Nat} (h : a < 9223372036854775808) : Cn (a : Int) (b : Int) = ((a / b : Nat) : Int) := by
 have : a / b ≤ a := Nat.div_le_self _ _
 rw [Ag3, Int.tdiv_eq_ediv_of_nonneg (by omega), ← Int.natCast_ediv]
 generalize a / b = k at *
 exact Ca (by omega) (by omega)
end Go.Pl
set_option linter.unusedVariables false
set_option linter.unusedSimpArgs false
namespace Go.Pl
open Go Go.Lv
variable (b : List UInt8)
end Go.Pl
set_option linter.unusedVariables false
set_option linter.unusedSimpArgs false
namespace Go.Pl
open Go Go.Lv
theorem Bvb {c : Nat} {w : Nat} (hc : c ≤ 6) (hw : Dg (w : Int)) : Cn (Bp (c : Int) (w : Int)) 8 = ((c * wB (w : Int) : Nat) : Int) := by
 have h : w = 8 ∨ w = 16 ∨ w = 24 := by unfold Dg at hw; omega
 have : c = 0 ∨ c = 1 ∨ c = 2 ∨ c = 3 ∨ c = 4 ∨ c = 5 ∨ c = 6 := by omega
 rcases h with rfl | rfl | rfl <;> rcases this with rfl | rfl | rfl | rfl | rfl | rfl | rfl <;> rfl
theorem Bvm {w : Nat} (hw : Dg (w : Int)) : 8 * wB (w : Int) = w ∧ w ≤ 24 := by
 have h : w = 8 ∨ w = 16 ∨ w = 24 := by unfold Dg at hw; omega
 rcases h with rfl | rfl | rfl <;> exact ⟨rfl, by omega⟩
theorem Bvw {t c w : Nat} (ht : t ≤ 4000) (hc : c ≤ 6) (hw : Dg (w : Int)) : Cn (Bp (Bp (t : Int) (c : Int)) (w : Int)) 8 = ((t * (c * wB (w : Int)) : Nat) : Int) := by
 obtain ⟨h1, h2⟩ := Bvm hw
 have e1 : (t : Int) * (c : Int) = ((t * c : Nat) : Int) := by simp
 have b1 : t * c ≤ 4000 * 6 := Nat.mul_le_mul ht hc
 have b2 : t * c * w ≤ 24000 * 24 := Nat.mul_le_mul b1 h2
 rw [Ip (a := (t : Int)) (by rw [e1]; omega) (by rw [e1]; omega), e1, Ip (by rw [← Int.natCast_mul]; omega) (by rw [← Int.natCast_mul]; omega), ← Int.natCast_mul, show (8 : Int) = ((8 : Nat) : Int) from rfl, Bvy (by omega)]
 congr 1
 generalize wB (w : Int) = W at *
 subst h1
 rw [Nat.mul_left_comm, Nat.mul_div_cancel_left _ (by omega), Nat.mul_assoc]
end Go.Pl
set_option linter.unusedVariables false
set_option linter.unusedSimpArgs false
namespace Go.Pl
open Go Go.Lv
end Go.Pl
set_option linter.unusedVariables false
set_option linter.unusedSimpArgs false
namespace Go.Pl
open Go Go.Lv
end Go.Pl
set_option linter.unusedVariables false
set_option linter.unusedSimpArgs false
namespace Go.Pl
open Go Go.Lv
theorem Bf2 {seg p : List UInt8} (hs : seg.length = 8) (hp : p.length ≤ 64) : Ab5 seg p = some (seg == leB (Abw p).toNat 8, 0) := by
 rw [Ab5, Bmy p hp, Aa]
 simp only
 rw [if_neg (by rw [Aj, Aj, Ac, Ac, Qm, hs]; simp), Il, Aa]
end Go.Pl
set_option linter.unusedVariables false
set_option linter.unusedSimpArgs false
namespace Go.Pl
open Go Go.Lv
def Auf (b : List UInt8) : List Int := framesL (longN (f3 (hdr b))) (f4 (hdr b))
end Go.Pl
set_option linter.unusedVariables false
set_option linter.unusedSimpArgs false
namespace Go.Pl
open Go Go.Lv
end Go.Pl
set_option linter.unusedVariables false
set_option linter.unusedSimpArgs false
namespace Go.Pl
open Go Go.Lv
end Go.Pl
set_option linter.unusedVariables false
set_option linter.unusedSimpArgs false
namespace Go.Pl
open Go Go.Lv
theorem Bcw {c r n : Nat} (h : fitB c r n = true) : 1 ≤ (framesL (longN r) n).length ∧ (framesL (longN r) n).length ≤ 1000 := by
 simp only [fitB, decide_eq_true_eq] at h
 rw [Avw]; exact ⟨Nat.le_add_left _ _, h.2⟩
end Go.Pl
set_option linter.unusedVariables false
set_option linter.unusedSimpArgs false
namespace Go.Pl
open Go Go.Lv
theorem Bk2 (g : Nat) : ∀ K : Nat, (List.replicate K (g : Int)).sum = ((K * g : Nat) : Int)
 | 0 => by simp
 | K + 1 => by
  rw [List.replicate_succ, List.sum_cons, Bk2 g K, Nat.succ_mul]; omega
theorem Bg6 {g n : Nat} (hn : 1 ≤ n) : (framesL g n).sum = (n : Int) := by
 have h := Nat.div_mul_le_self (n - 1) g
 rw [framesL, List.sum_append, Bk2]
 simp only [List.sum_cons, List.sum_nil]
 omega
theorem Bji : ∀ {l : List Int}, (∀ x ∈ l, 0 ≤ x) → 0 ≤ l.sum
 | [], _ => by simp
 | x :: l, h => by
  have h1 := h x List.mem_cons_self
  have h2 := Bji (l := l) fun y hy => h y (List.mem_cons_of_mem _ hy)
  rw [List.sum_cons]; omega
theorem As6 {l : List Int} (h : ∀ x ∈ l, 0 ≤ x) (i : Nat) : 0 ≤ (l.take i).sum ∧ (l.take i).sum ≤ l.sum := by
 have h1 := Bji (l := l.take i) fun x hx => h x (List.mem_of_mem_take hx)
 have h2 := Bji (l := l.drop i) fun x hx => h x (List.mem_of_mem_drop hx)
 have := Bmd l i
 omega
def Aol (c w : Nat) (fr : List Int) (k : Nat) : Int := (((fr.take k).sum.toNat * (c * wB (w : Int)) : Nat) : Int)
section
variable {f c w r n : Nat} (h1 : shapeB f c w r n = true) (h2 : fitB c r n = true)
include h1 h2
theorem Anm : (∀ x ∈ framesL (longN r) n, 0 ≤ x) ∧ (framesL (longN r) n).sum = (n : Int) ∧ n ≤ 4000 := by
 obtain ⟨hc, hw, hr, hn, _⟩ := At7 h1
 have hfit : n ≤ 4000 / c := by simp only [fitB, decide_eq_true_eq] at h2; exact h2.1
 have hn4 : n ≤ 4000 := by have := Nat.div_le_self 4000 c; omega
 refine ⟨fun x hx => ?_, Bg6 hn, hn4⟩
 obtain ⟨m, rfl, _⟩ := Aso (Aib r) hn hx
 omega
end
end Go.Pl
set_option linter.unusedVariables false
set_option linter.unusedSimpArgs false
namespace Go.Pl
open Go Go.Lv
theorem Buq (p : List UInt8) (N a k : Nat) : 0 ≤ (rcS p N a k).2.2 := by
 unfold rcS
 repeat' split
 all_goals simp
theorem Bvg (p : List UInt8) (N a k l : Nat) : 0 ≤ (dgS p N a k l).2.2 := by
 have h := Buq p N (a + 1) l
 unfold dgS
 repeat' split
 all_goals simp [h]
theorem Bju (ch : Nat) (p : List UInt8) (N : Nat) : ∀ (j a : Nat) (out : List UInt32), 0 ≤ (Yn ch p N j a out).2.2
 | 0, a, out => by rw [Yn]; exact Int.le_refl _
 | j + 1, a, out => by
  rw [Yn]
  split
  ·exact Bvg ..
  ·exact Bju ch p N j _ _
theorem Bqp (b : List UInt8) : 0 ≤ Wo b := by
 unfold Wo
 repeat' split
 all_goals simp
theorem Bck (a : List Int32) (b : Int) : ∀ (q : Nat) (i e : Int), Bd a b q i = some e → 0 ≤ e
 | 0, _, _, h => by rw [Bd] at h; cases h
 | q + 1, i, e, h => by
  rw [Bd, Cv] at h
  split at h
  ·cases hg : Al a i with
   | none => rw [hg] at h; cases h
   | some g =>
    rw [hg, Aa] at h
    split at h
    ·cases h; decide
    ·rw [Aa] at h
     split at h
     ·cases h; decide
     ·exact Bck a b q _ e h
  ·cases h; decide
theorem Bjh {bits : Int} {a : List Int32} {e : Int} (h : Bf bits a = some e) : 0 ≤ e := by
 rw [Bf, Gg] at h
 cases hg : Kl bits with
 | none => rw [hg] at h; cases h
 | some g =>
  rw [hg, Aa] at h
  split at h
  ·cases h; decide
  ·split at h
   ·cases h; decide
   ·exact Bck a _ _ _ e h
theorem Bbo {bits : Int} {ch n : Nat} {t : List Int32} {b : List UInt8} (hb : Dg bits) (ht : t.length = 16) (h1 : 1 ≤ ch) (h6 : ch ≤ 6) (n1 : 1 ≤ n) (n2 : n ≤ 4000 / ch) {l : List Int32} {e : Int}
  (h : Ig (ch : Int) bits t (n : Int) b = some (l, e)) : 0 ≤ e := by
 have hn : n * ch ≤ 4000 := by
  have := Nat.mul_le_mul_right ch n2
  have h2 := Nat.div_mul_le_self 4000 ch
  omega
 have hq4 := Bkx h1 h6
 generalize 4000 / ch = mm at *
 have hh := Aur bits
 have hasked : Ja (ch : Int) bits (n : Int) = some 0 := by
  rw [Ja, Sy, if_neg (by simp [Ae, As]; omega), Ayz hb, Aa, if_neg (by rw [Az]; simp; omega), Aa, if_neg (by simp [Aj, Ae]; omega), Cm (by rw [Aj]; simp; omega), Aa, hq4, if_neg (by rw [As]; simp; omega)]
 rw [Ig, Lh, hasked, Aa, if_neg (by rw [Aj]; simp), Aze, Aa] at h
 by_cases hs : Wo b ≠ 0
 ·rw [if_pos (by rw [Aj]; simpa using hs)] at h
  simp only [Aa] at h
  cases h
  exact Bqp b
 have hs0 : Wo b = 0 := by simpa using hs
 have hlen := Bf3 hs0
 have e4 : Ao (Ac b) 4 = ((b.length - 4 : Nat) : Int) := by rw [Ac, Bt (by omega) (by omega)]; omega
 rw [if_neg (by rw [Aj, hs0]; simp), e4, Dc (by omega) (by omega), Aa, show ((b.length - 4 : Nat) : Int).toNat = b.length - 4 from rfl] at h
 have hpl : (b.take (b.length - 4)).length = b.length - 4 := by simp
 generalize b.take (b.length - 4) = p at *
 have hr := Bkv (N := 8 * p.length) (p := p) rfl (by omega) h1 h6 hn
 have hV := Bju ch p (8 * p.length) (n * ch) 0 []
 have hat := Awh (ch := ch) (p := p) (N := 8 * p.length) (n * ch) 0 [] (by omega)
 rw [hr, Aa] at h
 generalize Yn ch p (8 * p.length) (n * ch) 0 [] = V at *
 obtain ⟨v, at', er⟩ := V
 simp only at *
 by_cases he : er ≠ 0
 ·rw [if_pos he] at h
  simp only at h
  rw [Fa, Dk, if_pos (by rw [Aj]; simpa using he)] at h
  cases h
  exact hV
 have he0 : er = 0 := by simpa using he
 have hvl := hat.2.2 he0
 simp only [List.length_nil, Nat.zero_add] at hvl
 rw [if_neg he] at h
 simp only at h
 rw [Fa, Dk] at h
 split at h
 ·cases h
  decide
 ·rw [if_neg (by decide)] at h
  have hm : v.length % ch = 0 := by rw [hvl]; exact Nat.mul_mod_left n ch
  obtain ⟨l', e', g1, g2, g3, g4, g5⟩ := As3 (v := v) hb ht h1 h6 (by omega) hm
  rw [g1, Aa, g2, Aa] at h
  have := Bjh g4
  by_cases hl : e' ≠ 0
  ·rw [if_pos hl] at h; cases h; exact this
  ·rw [if_neg hl] at h; cases h; decide
end Go.Pl
set_option linter.unusedVariables false
set_option linter.unusedSimpArgs false
namespace Go.Pl
open Go Go.Lv
def shI (f c w r n : Int) : Bool := decide ((f = 1 ∨ f = 2) ∧ (1 ≤ c ∧ c ≤ 6) ∧ (w = 8 ∨ w = 16 ∨ w = 24) ∧ (1 ≤ r ∧ r ≤ 1048576) ∧ 1 ≤ n)
theorem Bqe (f c w r n : Int) : Qb f c w r n = some (shI f c w r n) := by
 have e2 : Mc f c w r n = some (decide ((f = 1 ∨ f = 2) ∧ (1 ≤ c ∧ c ≤ 6) ∧ (1 ≤ r ∧ r ≤ 1048576) ∧ 1 ≤ n)) := by
  rw [Mc, Aey]
  congr 1
  rw [Bool.eq_iff_iff]
  simp only [Az, As, Aoh, Bool.and_eq_true, Bool.or_eq_true, beq_iff_eq, decide_eq_true_eq]
  omega
 have g : ∀ k : Int, geq w k = decide (w = k) := fun k => by rw [Az, Bool.eq_iff_iff]; simp
 rw [Qb, Yk, e2, g, g, g, shI]
 by_cases h8 : w = 8
 ·subst h8; simp
 ·by_cases h16 : w = 16
  ·subst h16; simp
  ·by_cases h24 : w = 24
   ·subst h24; simp
   ·simp [h8, h16, h24]
theorem Bsi (f c w r n : Int) : Fq f c w r n = some (shI f c w r n) := by
 rw [Fq, shI]
 simp only [Az, Dq, Aoh, Bool.and_eq_true, Bool.or_eq_true, beq_iff_eq, decide_eq_true_eq, Bool.false_and]
 split
 ·rename_i h
  congr 1
  rw [Bool.eq_iff_iff]
  simp only [Bool.and_eq_true, Bool.or_eq_true, beq_iff_eq, decide_eq_true_eq]
  omega
 ·rename_i h
  congr 1
  symm
  rw [decide_eq_false_iff_not]
  omega
structure HdI (f c w r n : Int) (F C W R N : Nat) : Prop where
 ef : f = F
 ec : c = C
 ew : w = W
 er : r = R
 en : n = N
 shape : shapeB F C W R N = true
 fit : fitB C R N = true
theorem Bm7 (f c w r n : Int) : (∃ F C W R N : Nat, HdI f c w r n F C W R N) ∨ (Gv f c w r n = some 8 ∧ Ct f c w r n = some ([], 8)) := by
 by_cases h : shI f c w r n = true
 ·have h' := h
  simp only [shI, decide_eq_true_eq] at h'
  obtain ⟨F, rfl⟩ := Int.eq_ofNat_of_zero_le (show 0 ≤ f by omega)
  obtain ⟨C, rfl⟩ := Int.eq_ofNat_of_zero_le (show 0 ≤ c by omega)
  obtain ⟨W, rfl⟩ := Int.eq_ofNat_of_zero_le (show 0 ≤ w by omega)
  obtain ⟨R, rfl⟩ := Int.eq_ofNat_of_zero_le (show 0 ≤ r by omega)
  obtain ⟨N, rfl⟩ := Int.eq_ofNat_of_zero_le (show 0 ≤ n by omega)
  have hs : shapeB F C W R N = true := by simp only [shapeB, decide_eq_true_eq]; omega
  by_cases hf : fitB C R N = true
  ·exact .inl ⟨F, C, W, R, N, rfl, rfl, rfl, rfl, rfl, hs, hf⟩
  ·have hf' : fitB C R N = false := by simpa using hf
   refine .inr ⟨?_, ?_⟩
   ·rw [Gv, Asm, Aa, hs, if_neg (by simp), Aya hs, Aa, hf']; rfl
   ·rw [Ct, Yw, Aqc, Aa, hs, if_neg (by simp), Aue hs, Aa, hf']; rfl
 ·have h' : shI f c w r n = false := by simpa using h
  refine .inr ⟨?_, ?_⟩
  ·rw [Gv, Bsi, Aa, h']; rfl
  ·rw [Ct, Yw, Bqe, Aa, h']; rfl
theorem HdI.check {f c w r n : Int} {F C W R N : Nat} (h : HdI f c w r n F C W R N) : Gv f c w r n = some 0 := by
 obtain ⟨rfl, rfl, rfl, rfl, rfl, hs, hf⟩ := h
 rw [Gv, Asm, Aa, hs, if_neg (by simp), Aya hs, Aa, hf]; rfl
theorem HdI.Auf {f c w r n : Int} {F C W R N : Nat} (h : HdI f c w r n F C W R N) : Ct f c w r n = some (framesL (longN R) N, 0) := by
 obtain ⟨rfl, rfl, rfl, rfl, rfl, hs, hf⟩ := h
 exact Bgm hs hf
theorem HdI.num {f c w r n : Int} {F C W R N : Nat} (h : HdI f c w r n F C W R N) : (F = 1 ∨ F = 2) ∧ (1 ≤ C ∧ C ≤ 6) ∧ (W = 8 ∨ W = 16 ∨ W = 24) ∧ (1 ≤ R ∧ R ≤ 1048576) ∧ 1 ≤ N ∧ N ≤ 4000 / C ∧ N ≤ 4000 ∧ (N - 1) / longN R + 1 ≤ 1000 := by
 obtain ⟨rfl, rfl, rfl, rfl, rfl, hs, hf⟩ := h
 simp only [shapeB, decide_eq_true_eq] at hs
 simp only [fitB, decide_eq_true_eq] at hf
 have hd : 4000 / C ≤ 4000 := Nat.div_le_self _ _
 omega
theorem HdI.Bs2 {f c w r n : Int} {F C W R N : Nat} (h : HdI f c w r n F C W R N) : Di f c w r n = some (framesL (longN R) N) := by
 have hn := h.num
 obtain ⟨rfl, rfl, rfl, rfl, rfl, hs, hf⟩ := h
 rw [Di, Ay0 (by omega) (by omega) (by omega)]; rfl
end Go.Pl
set_option linter.unusedVariables false
set_option linter.unusedSimpArgs false
namespace Go.Pl
open Go Go.Lv
section
variable {f c w r n : Nat} (h1 : shapeB f c w r n = true) (h2 : fitB c r n = true)
include h1 h2
theorem Bbd (k : Nat) (hk : k ≤ (framesL (longN r) n).length) : ∀ (j i q : Nat), i + j = k → j < q → Hg (k : Int) (f : Int) (c : Int) (w : Int) (r : Int) (n : Int) (framesL (longN r) n) q (((framesL (longN r) n).take i).sum) (i : Int) = some (Aol c w (framesL (longN r) n) k)
 | 0, i, q + 1, hi, _ => by
  obtain ⟨hc, hw, hr, hn, _⟩ := At7 h1
  obtain ⟨g1, g2, g3⟩ := Anm h1 h2
  have b := As6 g1 i
  obtain rfl : i = k := by omega
  have hb : ((framesL (longN r) n).take i).sum.toNat * (c * wB (w : Int)) ≤ 4000 * (6 * 3) := Nat.mul_le_mul (by omega) (Nat.mul_le_mul hc.2 (Bkh (w : Int)).2)
  rw [Hg, Pd, if_neg (by rw [Ae]; simp), Xb, Agm, Jf, Aa]
  simp only
  rw [Zj, Bvb hc.2 hw, Aa, Aol]
  have e : ((framesL (longN r) n).take i).sum = ((((framesL (longN r) n).take i).sum.toNat : Nat) : Int) := by omega
  rw [e, Ip (by rw [← Int.natCast_mul]; omega) (by rw [← Int.natCast_mul]; omega), ← Int.natCast_mul]; rfl
 | j + 1, i, q + 1, hi, hq => by
  obtain ⟨g1, g2, g3⟩ := Anm h1 h2
  have hK := Bcw h2
  have hlt : i < (framesL (longN r) n).length := by omega
  have b1 := As6 g1 i
  have b2 := As6 g1 (i + 1)
  have e := Ary hlt
  have ih := Bbd k hk j (i + 1) q (by omega) (by omega)
  rw [e] at ih
  rw [Hg, Pd, if_pos (by rw [Ae]; simp; omega), Cl hlt, Aa, Aa, Ah (by omega) (by omega), Ah (by omega) (by omega)]
  exact ih
theorem Bq4 (k : Nat) (hk : k ≤ (framesL (longN r) n).length) : Ok (f : Int) (c : Int) (w : Int) (r : Int) (n : Int) (k : Int) = some (Aol c w (framesL (longN r) n) k) := by
 have hK := Bcw h2
 obtain ⟨g1, g2, g3⟩ := Anm h1 h2
 obtain ⟨hc, hw, hr, hn, _⟩ := At7 h1
 have h := Bbd h1 h2 k hk k 0 Ay (by omega) (by have := Aq; omega)
 rw [List.take_zero, List.sum_nil] at h
 rw [Ok, Xo, Di, Ay0 hr.2 hn g3, Aa, Aa]
 exact h
theorem Biv {i : Nat} (hlt : i < (framesL (longN r) n).length) : Af (Aol c w (framesL (longN r) n) i) (Cn (Bp (Bp ((framesL (longN r) n)[i]) (c : Int)) (w : Int)) 8) = Aol c w (framesL (longN r) n) (i + 1) := by
 obtain ⟨hc, hw, hr, hn, _⟩ := At7 h1
 obtain ⟨g1, g2, g3⟩ := Anm h1 h2
 have b1 := As6 g1 i
 have b2 := As6 g1 (i + 1)
 have e := Ary hlt
 have h0 := g1 _ (List.getElem_mem hlt)
 have e2 : (framesL (longN r) n)[i] = (((framesL (longN r) n)[i].toNat : Nat) : Int) := by omega
 have hb : ((framesL (longN r) n).take (i + 1)).sum.toNat * (c * wB (w : Int)) ≤ 4000 * (6 * 3) := Nat.mul_le_mul (by omega) (Nat.mul_le_mul hc.2 (Bkh (w : Int)).2)
 rw [e2, Bvw (by omega) hc.2 hw, Aol, Aol]
 have e3 : ((framesL (longN r) n).take (i + 1)).sum.toNat = ((framesL (longN r) n).take i).sum.toNat + (framesL (longN r) n)[i].toNat := by omega
 rw [e3, Nat.add_mul] at hb ⊢
 rw [Ah (by omega) (by omega)]
 omega
theorem Baz (a : Nat) (ha : a ≤ (framesL (longN r) n).length) (o p : LB) (m : LI) (a' : Int) (N : LB) (u : Bool) (v : Int) : ∀ (j i q : Nat), i + j = a → j < q →
  Nx ((framesL (longN r) n).take a) o p (f : Int) (c : Int) (w : Int) (r : Int) (n : Int) m a' N u v q (Aol c w (framesL (longN r) n) i) (i : Int) = some (gle (Ac N) (Aol c w (framesL (longN r) n) a))
 | 0, i, q + 1, hi, _ => by
  obtain rfl : i = a := by omega
  rw [Nx, Aag, if_neg (by rw [Ae, Ac, List.length_take]; simp; omega), Ag7, Aoj]
 | j + 1, i, q + 1, hi, hq => by
  have hK := Bcw h2
  have hlt : i < (framesL (longN r) n).length := by omega
  have hlt2 : i < ((framesL (longN r) n).take a).length := by rw [List.length_take]; omega
  have ih := Baz a ha o p m a' N u v j (i + 1) q (by omega) (by omega)
  rw [Nx, Aag, if_pos (by rw [Ae, Ac]; simp; omega), Cl hlt2, Aa, List.getElem_take, Biv h1 h2 hlt, Ah (by omega) (by omega)]
  exact ih
end
end Go.Pl
set_option linter.unusedVariables false
set_option linter.unusedSimpArgs false
namespace Go.Pl
open Go Go.Lv
theorem Awn {α : Type} (l : List α) : geq (Ac l) 0 = decide (l = []) := by
 cases l with
 | nil => rfl
 | cons x l => rw [Az, Ac, List.length_cons, decide_eq_false (by simp), beq_eq_false_iff_ne]; omega
theorem Bdv {α : Type} (l : List α) : Gf (Ac l) 0 = decide (l ≠ []) := by
 cases l with
 | nil => rfl
 | cons x l => rw [As, Ac, List.length_cons, decide_eq_true (by simp)]; simp
inductive FitD (o : LB) (f c w r n : Int) (g : LI) (a : Int) (x : LB) : Prop
 | new : f = 0 → c = 0 → w = 0 → r = 0 → n = 0 → g = [] → a = 0 → x = [] → FitD o f c w r n g a x
 | head (F C W R N : Nat) : HdI f c w r n F C W R N → (o == ([] : LB)) = decide (F = 1) → g = [] → a = 0 → x = [] → FitD o f c w r n g a x
 | tab (F C W R N A : Nat) : HdI f c w r n F C W R N → (o == ([] : LB)) = decide (F = 1) → tabB g = true → g.length = (framesL (longN R) N).length → a = A → A ≤ g.length → FitD o f c w r n g a x
theorem Bhw (f c w r n : Int) (o : LB) : Mk f c w r n o = Gw f c w r n o := rfl
theorem Ay9 (o p : LB) (f c w r n : Int) (g : LI) (a : Int) (x : LB) (u : Bool) (v : Int) :
  (Yq o p f c w r n g a x u v = some false ∧ Mj o p f c w r n g a x u v = some false) ∨
  (Yq o p f c w r n g a x u v = some true ∧ Mj o p f c w r n g a x u v = Bu o p f c w r n g a x u v ∧ FitD o f c w r n g a x) := by
 rw [Yq, Agq, Mj, Vg]
 by_cases hz : f = 0 ∧ c = 0 ∧ w = 0 ∧ r = 0 ∧ n = 0
 ·obtain ⟨rfl, rfl, rfl, rfl, rfl⟩ := hz
  rw [if_pos (by decide), if_pos (by decide), Awn, Awn, Bdv, Bdv]
  by_cases h : g = [] ∧ a = 0 ∧ x = []
  ·obtain ⟨rfl, rfl, rfl⟩ := h
   exact .inr ⟨rfl, by rw [if_neg (by decide)], .new rfl rfl rfl rfl rfl rfl rfl rfl⟩
  ·refine .inl ⟨?_, ?_⟩
   ·congr 1
    rw [Bool.eq_false_iff]
    intro e
    simp only [Bool.and_eq_true, decide_eq_true_eq, Az, beq_iff_eq] at e
    exact h ⟨e.1.1, e.1.2, e.2⟩
   ·rw [if_pos]
    simp only [Bool.or_eq_true, decide_eq_true_eq, Aj, bne_iff_ne]
    by_cases e1 : g = []
    ·by_cases e2 : a = 0
     ·exact .inr fun e3 => h ⟨e1, e2, e3⟩
     ·exact .inl (.inr e2)
    ·exact .inl (.inl e1)
 ·have hz2 : ¬ (((geq f 0) && ((geq c 0) && ((geq w 0) && ((geq r 0) && ((geq n 0) && true))))) = true) := by
   simp only [Bool.and_eq_true, Az, beq_iff_eq, and_true]
   exact hz
  rw [if_neg hz2, if_neg hz2]
  rcases Bm7 f c w r n with ⟨F, C, W, R, N, h⟩ | ⟨e1, e2⟩
  ·rw [h.Auf, h.check, Aa, Aa, Bhw]
   simp only
   rw [if_neg (by decide), if_neg (by decide), Gw]
   have hf : geq f 1 = decide (F = 1) := by rw [h.ef, Az, Bool.eq_iff_iff]; simp; omega
   rw [hf]
   by_cases hp : (o == ([] : LB)) = decide (F = 1)
   ·rw [if_neg (by rw [hp]; simp), Aa, Aa, if_neg (by decide), if_neg (by decide), Ag4, Aha, Ut, Vi, Awn, Awn, Bdv]
    by_cases hg : g = []
    ·subst hg
     rw [if_pos (by simp), if_pos (by simp)]
     by_cases h' : a = 0 ∧ x = []
     ·obtain ⟨rfl, rfl⟩ := h'
      exact .inr ⟨rfl, by rw [if_neg (by decide)], .head F C W R N h hp rfl rfl rfl⟩
     ·refine .inl ⟨?_, ?_⟩
      ·congr 1
       rw [Bool.eq_false_iff]
       intro e
       simp only [Bool.and_eq_true, decide_eq_true_eq, Az, beq_iff_eq] at e
       exact h' e
      ·rw [if_pos]
       simp only [Bool.or_eq_true, decide_eq_true_eq, Aj, bne_iff_ne]
       by_cases e2 : a = 0
       ·exact .inr fun e3 => h' ⟨e2, e3⟩
       ·exact .inl e2
    ·rw [if_neg (by simpa using hg), if_neg (by simpa using hg), Ap2, Arh, Aa, Aa]
     by_cases ht : tabB g = true
     ·rw [if_pos ht, h.Bs2]
      simp only [Aa]
      by_cases hl : g.length = (framesL (longN R) N).length ∧ 0 ≤ a ∧ a ≤ g.length
      ·obtain ⟨hl, ha0, ha1⟩ := hl
       obtain ⟨A, rfl⟩ := Int.eq_ofNat_of_zero_le ha0
       have hA : A ≤ (framesL (longN R) N).length := by omega
       rw [if_neg (by simp [Aj, Ae, As, Ac]; omega), if_neg (by decide), if_neg (by simp [Aj, Ae, As, Ac]; omega), Dc (by omega) (by omega), Aa, Agr]
       have hh := h
       clear hf
       obtain ⟨rfl, rfl, rfl, rfl, rfl, hs, hf⟩ := hh
       have hlp := Baz hs hf A hA o p g (A : Int) x u v A 0 Ay (by omega) (by have := Aq; have := Bcw hf; omega)
       have h0 : Aol C W (framesL (longN R) N) 0 = 0 := by rw [Aol, List.take_zero, List.sum_nil]; simp
       rw [h0, show ((0 : Nat) : Int) = 0 from rfl] at hlp
       rw [show ((A : Int)).toNat = A from rfl, hlp, Bq4 hs hf A hA, Aa]
       by_cases hx : (x.length : Int) ≤ Aol C W (framesL (longN R) N) A
       ·refine .inr ⟨?_, ?_, .tab F C W R N A h hp ht hl rfl (by omega)⟩
        ·rw [Aoh, Ac, decide_eq_true hx]
        ·rw [if_neg (by rw [As, Ac]; simp; omega)]
       ·refine .inl ⟨?_, ?_⟩
        ·rw [Aoh, Ac, decide_eq_false hx]
        ·rw [if_pos (by rw [As, Ac]; simp; omega)]
      ·refine .inl ⟨?_, ?_⟩
       ·rw [if_pos (by simp [Aj, Ae, As, Ac]; omega)]
       ·rw [if_neg (by decide), if_pos (by simp [Aj, Ae, As, Ac]; omega)]
     ·refine .inl ⟨?_, ?_⟩
      ·rw [if_neg ht, if_pos (by simp [Aj])]
      ·rw [if_neg ht, if_pos (by decide), if_pos (by simp)]
   ·rw [if_pos (by simpa using hp), Aa, Aa, if_pos (by decide), if_pos (by decide)]
    exact .inl ⟨rfl, rfl⟩
  ·rw [e1, e2, Aa, Aa]
   simp only
   rw [if_pos (by decide), if_pos (by decide)]
   exact .inl ⟨rfl, rfl⟩
end Go.Pl
set_option linter.unusedVariables false
set_option linter.unusedSimpArgs false
namespace Go.Pl
open Go Go.Lv
theorem Bns (b : List UInt8) (n : Int) : 0 ≤ (Aog b n).2 := by
 unfold Aog
 repeat' split
 all_goals simp
theorem Bov (b : List UInt8) : 0 ≤ (Akm b).2 := by
 unfold Akm Az6
 repeat' split
 all_goals first | exact Bns _ _ | simp
theorem Bmh (b : List UInt8) : 0 ≤ (Ps b).2 := by
 unfold Ps
 repeat' split
 all_goals simp
theorem Bps (b : List UInt8) : 0 ≤ (Dv b).2 := by
 unfold Dv
 split
 ·exact Bov b
 ·exact Bmh b
theorem Bbf (b : List UInt8) : ∀ (j p : Nat), 0 ≤ (Ch b j p).2
 | 0, p => by simp [Ch]
 | j + 1, p => by
  rw [Ch]
  split
  ·simp
  ·split
   ·exact Bps _
   ·split
    ·simp
    ·split
     ·simp
     ·exact Bbf b j _
theorem Bb1 (b : List UInt8) : 0 ≤ (Gn b).2 := by
 unfold Gn Bi0
 split
 ·simp
 ·exact Bbf b _ _
theorem Bgh (b : List UInt8) : 0 ≤ (Gs b).2.2.2.2.2 := by
 unfold Gs
 repeat' split
 all_goals simp
theorem Bfa (b : List UInt8) (n : Nat) : 0 ≤ (Ni b n).2 := by
 unfold Ni
 repeat' split
 all_goals simp
def ID3 : List UInt8 := [73, 68, 51]
def APX : List UInt8 := [65, 80, 69, 84, 65, 71, 69, 88]
def An2 (b s : List UInt8) : Bool := decide (b.length < s.length) && (b == s.take b.length)
theorem Bax (b s : List UInt8) : Kx b s = some (An2 b s) := by
 rw [Kx, An2]
 by_cases h : b.length < s.length
 ·rw [if_pos (by rw [Ae, Ac, Ac]; simp; omega), Ac, Dc (by omega) (by omega), Aa, decide_eq_true h, Bool.true_and]; rfl
 ·rw [if_neg (by rw [Ae, Ac, Ac]; simp; omega), decide_eq_false h]; rfl
theorem Bq1 (b s : List UInt8) (h : b.length < s.length) : Hn s b = some (An2 b s) := by
 rw [Hn, Fg, if_pos (by rw [Dq, Ac, Ac]; simp; omega), Ac, Dc (by omega) (by omega), Aa, Aa, An2, decide_eq_true h, Bool.true_and, Int.toNat_natCast]
 congr 1
 rw [Bool.eq_iff_iff, beq_iff_eq, beq_iff_eq]
 exact eq_comm
theorem Bca {b s : List UInt8} (h : ¬ b.length < s.length) : An2 b s = false := by rw [An2, decide_eq_false h]; rfl
theorem Bob (b : List UInt8) : Pk b = some (An2 b ID3 || An2 b APX) := by
 obtain ⟨q, hq⟩ : ∃ q, Ay = q + 3 := ⟨Ay - 3, by have := Aq; omega⟩
 have l3 : Im b (q + 1) 2 = some false := by rw [Im, Uh, if_neg (by decide)]; rfl
 have l2 : Im b (q + 2) 1 = some (An2 b APX) := by
  rw [Im, Uh, if_pos (by decide), show Al ([([73, 68, 51] : LB), ([65, 80, 69, 84, 65, 71, 69, 88] : LB)] : List LB) 1 = some APX from rfl, Aa, show Af (1 : Int) 1 = 2 from rfl]
  by_cases h : b.length < APX.length
  ·rw [if_pos (by rw [Ae, Ac, Ac]; simp; omega), Bq1 b APX h, Aa]
   by_cases hb : An2 b APX = true
   ·rw [if_pos hb, hb]
   ·rw [if_neg hb, l3]; simpa using hb
  ·rw [if_neg (by rw [Ae, Ac, Ac]; simp; omega), l3, Bca h]
 rw [Pk, Agx, Agu, hq, Im, Uh, if_pos (by decide), show Al ([([73, 68, 51] : LB), ([65, 80, 69, 84, 65, 71, 69, 88] : LB)] : List LB) 0 = some ID3 from rfl, Aa, show Af (0 : Int) 1 = 1 from rfl]
 by_cases h : b.length < ID3.length
 ·rw [if_pos (by rw [Ae, Ac, Ac]; simp; omega), Bq1 b ID3 h, Aa]
  by_cases hb : An2 b ID3 = true
  ·rw [if_pos hb, hb]; rfl
  ·rw [if_neg hb, l2, Bool.eq_false_iff.2 hb]; rfl
 ·rw [if_neg (by rw [Ae, Ac, Ac]; simp; omega), l2, Bca h]; rfl
def stS (b : List UInt8) : Int × Int × Int × Int × Int × Int × Int :=
 if (Gn b).2 = 24 then (0, 0, 0, 0, 0, 0, -1) else if (Gn b).2 ≠ 0 then (0, 0, 0, 0, 0, 0, (Gn b).2) else
 if (An2 (hdr b) ID3 || An2 (hdr b) APX) = true then (0, 0, 0, 0, 0, 0, -1) else
 if (Gs (hdr b)).2.2.2.2.2 = 24 then (0, 0, 0, 0, 0, 0, -1) else ((Gn b).1 + 22, (Gs (hdr b)).1, (Gs (hdr b)).2.1, (Gs (hdr b)).2.2.1, (Gs (hdr b)).2.2.2.1, (Gs (hdr b)).2.2.2.2.1, (Gs (hdr b)).2.2.2.2.2)
theorem Az0 (b : List UInt8) (hb : b.length ≤ 100000) : Jo b = some (stS b) := by
 rw [Jo, Rb, Atr b (by omega), Aa, stS]
 have hok := Aq1 (b := b)
 simp only
 by_cases h1 : (Gn b).2 = 24
 ·rw [if_pos (by rw [Az]; simpa using h1), if_pos h1]
 rw [if_neg (by rw [Az]; simpa using h1), if_neg h1]
 by_cases h2 : (Gn b).2 ≠ 0
 ·rw [if_pos (by rw [Aj]; simpa using h2), if_pos h2]
 have h0 : (Gn b).2 = 0 := by simpa using h2
 obtain ⟨k1, k2, k3⟩ := hok h0
 rw [if_neg (by rw [Aj, h0]; simp), if_neg h2, Cp (by omega) (by omega), Aa, Bax, Aa, show b.drop (Gn b).1.toNat = hdr b from rfl, show ([73, 68, 51] : LB) = ID3 from rfl, show ([65, 80, 69, 84, 65, 71, 69, 88] : LB) = APX from rfl]
 by_cases h3 : An2 (hdr b) ID3 = true
 ·rw [if_pos h3, h3, Bool.true_or, if_pos rfl]
 rw [if_neg h3, Bax, Aa, Bool.eq_false_iff.2 h3, Bool.false_or]
 by_cases h4 : An2 (hdr b) APX = true
 ·rw [if_pos h4, if_pos h4]
 have hl : (hdr b).length ≤ b.length := by rw [hdr, List.length_drop]; omega
 rw [if_neg h4, if_neg h4, Rm, Abj, Bgq _ (by omega), Aa]
 simp only
 by_cases h5 : (Gs (hdr b)).2.2.2.2.2 = 24
 ·rw [if_pos (by rw [Az]; simpa using h5), if_pos h5]
 ·rw [if_neg (by rw [Az]; simpa using h5), if_neg h5, Ah (by omega) (by omega)]
end Go.Pl
set_option linter.unusedVariables false
set_option linter.unusedSimpArgs false
namespace Go.Pl
open Go Go.Lv
def Bh1 (g a : LB) (k p o u v : Int) (f : LI) (b : Int) (h : LB) (m : Bool) (n : Int) : Option Int :=
if (geq k 0) then
(Jq a).bind fun (al, ba) =>
if (geq ba 24) then
Dd true 0
else
if (Bn ba 0) then
(Ag ba).bind fun (bx, bz) =>
Dd bx bz
else
(Bb a al (Ac a)).bind fun da =>
(Pk da).bind fun an =>
if an then
Dd true 0
else
(Bb a al (Ac a)).bind fun db =>
(Pg db).bind fun (ae, af, aa, ag, ab, bb) =>
if (geq bb 24) then
Dd true 0
else
if (Bn bb 0) then
(Ag bb).bind fun (dc, dd) =>
Dd dc dd
else
(
(Bb a (Af al 22) (Ac a)).bind fun ak =>
(
Wd g ak ae af aa ag ab b m n f h))
else
if (geq (Ac f) 0) then
if (geq k 2) then
if (Ci (Ac a) 8) then
Ho true 0
else
Wh g a k p o u v b m n f h
else
Hz g a k p o u v b m n f h 0
else
if (Ci b (Ac f)) then
(Al f b).bind fun _ =>
(Al f b).bind fun w =>
if (Ci (Ac a) w) then
Ft true 0
else
(Abe g).bind fun (ap, am) =>
if (Bn am 0) then
(Ag am).bind fun (de, df) =>
Ft de df
else
(Ct k p o u v).bind fun (ad, dg) =>
if ((Bn dg 0) || (Ud b (Ac ad))) then
(Ag 8).bind fun (dh, di) =>
Ft dh di
else
Wf w g a k p o u v b m n ap ad f h
else
if (Gf (Ac a) 4000) then
(Ag 38).bind fun (dj, bf) =>
Bc ((dj == true) && ((geq bf 0) && true))
else
Wb
theorem Ar7 (d : Bool) (e : Int) : Dd d e = Bc (d && geq e 0) := by
 rw [Dd, Acw]; cases d <;> simp
theorem Axv (d : Bool) (e : Int) : Ho d e = Bc (d && geq e 0) := by
 rw [Ho, Aci]; cases d <;> simp
theorem Big (d : Bool) (e : Int) : Ft d e = Bc (d && geq e 0) := by
 rw [Ft, Adh]; cases d <;> simp
theorem rp4 {o p : LB} {f c w r n : Int} {g : LI} {a : Int} {x : LB} {u : Bool} {v : Int} {t1 t2 : LB} {t3 t4 t5 t6 t7 : Int} {t8 : LI} {t9 : Int} {t10 : LB} {t11 : Bool} {t12 e : Int}
  (h : cadenzaref37_take o p f c w r n g a x u v = some (t1, t2, t3, t4, t5, t6, t7, t8, t9, t10, t11, t12, e)) : Bu o p f c w r n g a x u v = some (geq e (-1)) := by
 rw [Bu, Ad1, h, Aa]
theorem Ay8 {e : Int} (h : 0 ≤ e) : geq e (-1) = false := by rw [Az, beq_eq_false_iff_ne]; omega
theorem Bl3 (o p : LB) (c w r n : Int) (g : LI) (a : Int) (x : LB) (u : Bool) (v : Int) (hp : p.length ≤ 100000) :
  ∃ B : Bool, Bh1 o p 0 c w r n g a x u v = Bc B ∧ Bu o p 0 c w r n g a x u v = some B := by
 have hT : cadenzaref37_take o p 0 c w r n g a x u v = cadenzaref37_take o p 0 c w r n g a x u v := rfl
 conv at hT => rhs; rw [cadenzaref37_take, Cq, if_pos (by decide), Az0 p hp, Aa, stS]
 have hfn := Bb1 p
 have hrn := Bgh (hdr p)
 rw [Bh1, if_pos (by decide), Ajh p (by omega), Aa]
 have hok := Aq1 (b := p)
 simp only at hT ⊢
 by_cases h1 : (Gn p).2 = 24
 ·rw [if_pos h1] at hT
  simp only at hT
  rw [if_pos (by decide)] at hT
  rw [if_pos (by rw [Az]; simpa using h1), Ar7]
  exact ⟨_, rfl, rp4 hT⟩
 rw [if_neg h1] at hT
 rw [if_neg (by rw [Az]; simpa using h1)]
 by_cases h2 : (Gn p).2 ≠ 0
 ·rw [if_pos h2] at hT
  simp only at hT
  rw [if_pos (by rw [Aj]; simpa using h2)] at hT
  rw [if_pos (by rw [Aj]; simpa using h2), Ag, Aa]
  simp only
  rw [Ar7]
  exact ⟨_, rfl, (rp4 hT).trans (by rw [Ay8 hfn]; rfl)⟩
 have h0 : (Gn p).2 = 0 := by simpa using h2
 obtain ⟨k1, k2, k3⟩ := hok h0
 have hl : (hdr p).length = p.length - (Gn p).1.toNat := by rw [hdr, List.length_drop]
 rw [if_neg h2] at hT
 rw [if_neg (by rw [Aj, h0]; simp), Cp (by omega) (by omega), Aa, Aa, show p.drop (Gn p).1.toNat = hdr p from rfl, Bob, Aa]
 by_cases h3 : (An2 (hdr p) ID3 || An2 (hdr p) APX) = true
 ·rw [if_pos h3] at hT ⊢
  simp only at hT
  rw [if_pos (by decide)] at hT
  rw [Ar7]
  exact ⟨_, rfl, rp4 hT⟩
 rw [if_neg h3] at hT ⊢
 rw [Auo _ (by omega), Aa]
 by_cases h5 : (Gs (hdr p)).2.2.2.2.2 = 24
 ·rw [if_pos h5] at hT
  simp only at hT
  rw [if_pos (by decide)] at hT
  rw [if_pos (by rw [Az]; simpa using h5), Ar7]
  exact ⟨_, rfl, rp4 hT⟩
 rw [if_neg h5] at hT
 rw [if_neg (by rw [Az]; simpa using h5)]
 simp only at hT
 by_cases h6 : (Gs (hdr p)).2.2.2.2.2 ≠ 0
 ·rw [if_pos (by rw [Aj]; simpa using h6)] at hT ⊢
  rw [Ag, Aa]
  simp only
  rw [Ar7]
  exact ⟨_, rfl, (rp4 hT).trans (by rw [Ay8 hrn]; rfl)⟩
 have h7 : (Gs (hdr p)).2.2.2.2.2 = 0 := by simpa using h6
 have h22 := (Bf8 h7).2.1
 rw [if_neg (by rw [Aj, h7]; simp), Cp (by omega) (by omega), Aa, Ot, Xq, Gw] at hT
 rw [if_neg (by rw [Aj, h7]; simp), Ah (by omega) (by omega), Cp (by omega) (by omega), Aa, Wd, Acg, Mk]
 simp only
 by_cases h8 : ((o == ([] : LB)) != geq (Gs (hdr p)).1 1) = true
 ·rw [if_pos h8] at hT ⊢
  rw [Aa] at hT ⊢
  rw [Ag, Aa]
  simp only
  rw [Ar7]
  exact ⟨_, rfl, rp4 hT⟩
 ·rw [if_neg h8] at hT ⊢
  rw [Aa] at hT ⊢
  rw [Ag, Aa]
  simp only
  rw [Ar7]
  exact ⟨_, rfl, rp4 hT⟩
end Go.Pl
set_option linter.unusedVariables false
set_option linter.unusedSimpArgs false
namespace Go.Pl
open Go Go.Lv
section
variable {f c w r n : Int} {F C W R N : Nat} (hd : HdI f c w r n F C W R N)
include hd
theorem HdI.ne0 : ¬ (geq f 0 = true) := by
 have := hd.num
 rw [Az, beq_iff_eq, hd.ef]; omega
theorem Bnv (o p : LB) (hp : p.length ≤ 100000) (A : Nat) (hA : A ≤ p.length) (a : Int) (x : LB) (u : Bool) (v : Int) :
  (Hz o p f c w r n a u v [] x (A : Int) = Bc (decide ((Ni (p.drop A) (framesL (longN R) N).length).2 = 24))) ∧
  Fe p f c w r n (A : Int) = some (if (Ni (p.drop A) (framesL (longN R) N).length).2 = 24 then (0, [], -1) else ((A : Int) + (4 * ((Ni (p.drop A) (framesL (longN R) N).length).1.length : Int) + 4), (Ni (p.drop A) (framesL (longN R) N).length).1, (Ni (p.drop A) (framesL (longN R) N).length).2)) ∧
  ((Ni (p.drop A) (framesL (longN R) N).length).2 = 0 → (A : Int) + (4 * ((Ni (p.drop A) (framesL (longN R) N).length).1.length : Int) + 4) ≤ p.length) := by
 have hs := Ba9 (p.drop A) (framesL (longN R) N).length (by rw [List.length_drop]; omega)
 have hr := Bnp (p.drop A) (framesL (longN R) N).length (by rw [List.length_drop]; omega)
 have hok := Bgv (b := p.drop A) (n := (framesL (longN R) N).length)
 have hlen : (Ni (p.drop A) (framesL (longN R) N).length).1.length ≤ 1000 := by
  unfold Ni
  repeat' split
  all_goals simp [Af9]
  all_goals omega
 have hfit : (Ni (p.drop A) (framesL (longN R) N).length).2 = 0 → (A : Int) + (4 * ((Ni (p.drop A) (framesL (longN R) N).length).1.length : Int) + 4) ≤ p.length := by
  intro h0
  obtain ⟨k1, k2, k3, k4, _⟩ := hok h0
  rw [k1]
  simp only [Af9]
  rw [List.length_drop] at k4
  omega
 refine ⟨?_, ?_, hfit⟩
 ·rw [Hz, Ac1, hd.Auf, Aa]
  simp only
  rw [if_neg (by decide), Cp (by omega) (by omega), Aa, Int.toNat_natCast, Ac, hs, Aa]
  generalize Ni (p.drop A) (framesL (longN R) N).length = z at *
  obtain ⟨z1, z2⟩ := z
  simp only at *
  by_cases h1 : z2 = 24
  ·rw [if_pos (by rw [Az]; simpa using h1), Axv, decide_eq_true h1]; rfl
  rw [if_neg (by rw [Az]; simpa using h1), decide_eq_false h1]
  by_cases h2 : z2 ≠ 0
  ·rw [if_pos (by rw [Aj]; simpa using h2), Ag, Aa]
   simp only
   rw [Axv]; rfl
  ·have h0 : z2 = 0 := by simpa using h2
   have := hfit h0
   rw [if_neg (by rw [Aj, h0]; simp), Ac, Bit A z1.length (by omega) (by omega), Cp (by omega) (by omega), Aa, Axv]; rfl
 ·rw [Fe, Tq, Cp (by omega) (by omega), Aa, hd.Bs2, Aa, Ac, Int.toNat_natCast, hr, Aa]
  generalize Ni (p.drop A) (framesL (longN R) N).length = z at *
  obtain ⟨z1, z2⟩ := z
  simp only at *
  rw [Uc, Acy]
  by_cases h1 : z2 = 24
  ·rw [if_pos (by rw [Az]; simpa using h1), if_pos h1]
  ·rw [if_neg (by rw [Az]; simpa using h1), if_neg h1, Ac, Bit A z1.length (by omega) (by omega)]
   congr 2
theorem Btl (o p : LB) (ho : o.length ≤ 64) (hp : p.length ≤ 100000) (a : Int) (x : LB) (u : Bool) (v : Int) :
  ∃ B : Bool, Bh1 o p f c w r n [] a x u v = Bc B ∧ Bu o p f c w r n [] a x u v = some B := by
 have hT : cadenzaref37_take o p f c w r n [] a x u v = cadenzaref37_take o p f c w r n [] a x u v := rfl
 conv at hT => rhs; rw [cadenzaref37_take, Cq, if_neg hd.ne0, Gy, Em, if_pos (by decide), Kw, Ln]
 rw [Bh1, if_neg hd.ne0, if_pos (by decide)]
 have fin : ∀ A : Nat, A ≤ p.length → cadenzaref37_take o p f c w r n [] a x u v = (Fe p f c w r n (A : Int)).bind (fun (ag, ak, w1) =>
   if (Bn w1 0) then some (o, p, f, c, w, r, n, [], a, x, u, v, w1) else (Bb p ag (Ac p)).bind fun al => some (o, al, f, c, w, r, n, ak, a, x, u, v, 0)) →
   ∃ B : Bool, Hz o p f c w r n a u v [] x (A : Int) = Bc B ∧ Bu o p f c w r n [] a x u v = some B := by
  intro A hA hT
  obtain ⟨t1, t2, t3⟩ := Bnv hd o p hp A hA a x u v
  have hnn := Bfa (p.drop A) (framesL (longN R) N).length
  rw [t2, Aa] at hT
  rw [t1]
  generalize Ni (p.drop A) (framesL (longN R) N).length = z at *
  obtain ⟨z1, z2⟩ := z
  simp only at *
  by_cases h1 : z2 = 24
  ·rw [if_pos h1] at hT
   simp only at hT
   rw [if_pos (by decide)] at hT
   exact ⟨_, rfl, (rp4 hT).trans (by rw [decide_eq_true h1]; rfl)⟩
  rw [if_neg h1] at hT
  simp only at hT
  by_cases h2 : z2 ≠ 0
  ·rw [if_pos (by rw [Aj]; simpa using h2)] at hT
   exact ⟨_, rfl, (rp4 hT).trans (by rw [decide_eq_false h1, Ay8 hnn])⟩
  ·have h0 : z2 = 0 := by simpa using h2
   have := t3 h0
   rw [if_neg (by rw [Aj, h0]; simp), Cp (by omega) (by omega), Aa] at hT
   exact ⟨_, rfl, (rp4 hT).trans (by rw [decide_eq_false h1]; rfl)⟩
 by_cases h2 : geq f 2 = true
 ·rw [if_pos h2] at hT ⊢
  by_cases h8 : p.length < 8
  ·rw [if_pos (by rw [Ae, Ac]; simp; omega)] at hT ⊢
   rw [Aa] at hT
   simp only at hT
   rw [if_pos (by decide)] at hT
   rw [Axv]
   exact ⟨_, rfl, rp4 hT⟩
  ·rw [if_neg (by rw [Ae, Ac]; simp; omega)] at hT ⊢
   have h8' : (p.take 8).length = 8 := by rw [List.length_take]; omega
   rw [Dc (by omega) (by omega), Aa, Bb6 o ho, Aa] at hT
   rw [Wh, Acj, Dc (by omega) (by omega), Aa, show (8 : Int).toNat = 8 from rfl, Bf2 h8' ho, Aa]
   rw [show (8 : Int).toNat = 8 from rfl] at hT
   simp only
   rw [Ab7, Acz, if_neg (by decide)]
   by_cases he : (p.take 8 == leB (Abw o).toNat 8) = true
   ·rw [if_neg (by rw [bne, he]; decide)] at hT
    rw [if_neg (by rw [he]; decide)]
    exact fin 8 (by omega) hT
   ·have he' : (p.take 8 == leB (Abw o).toNat 8) = false := by simpa using he
    rw [if_pos (by rw [bne, he']; decide), Aa] at hT
    simp only at hT
    rw [if_pos (by decide)] at hT
    rw [if_pos (by rw [he']; decide), Ag, Aa]
    simp only
    rw [Axv]
    exact ⟨_, rfl, rp4 hT⟩
 ·rw [if_neg h2] at hT ⊢
  exact fin 0 (by omega) hT
end
end Go.Pl
set_option linter.unusedVariables false
set_option linter.unusedSimpArgs false
namespace Go.Pl
open Go Go.Lv
theorem Bnf {f c w r n : Int} {F C W R N : Nat} (hd : HdI f c w r n F C W R N) (o p : LB) (ho : o.length ≤ 64) (hp : p.length ≤ 100000) (g : LI) (hg : tabB g = true) (hl : g.length = (framesL (longN R) N).length) (A : Nat) (hA : A ≤ g.length) (x : LB) (hx : x.length ≤ 100000) (u : Bool) (v : Int) :
  ∃ B : Bool, Bh1 o p f c w r n g (A : Int) x u v = Bc B ∧ Bu o p f c w r n g (A : Int) x u v = some B := by
 have hc := hd.ec
 subst hc
 have hg' := hg
 rw [tabB, Bool.and_eq_true, decide_eq_true_eq, Aqx g 100000 (by omega)] at hg'
 obtain ⟨⟨g1, g2⟩, g5, g6⟩ := hg'
 have hT : cadenzaref37_take o p f (C : Int) w r n g (A : Int) x u v = cadenzaref37_take o p f (C : Int) w r n g (A : Int) x u v := rfl
 conv at hT => rhs; rw [cadenzaref37_take, Cq, if_neg hd.ne0, Gy, Em, if_neg (by rw [Az, Ac]; simp; intro e; subst e; simp at g1)]
 rw [Bh1, if_neg hd.ne0, if_neg (by rw [Az, Ac]; simp; intro e; subst e; simp at g1)]
 by_cases hA2 : A = g.length
 ·subst hA2
  rw [if_pos (by rw [Az, Ac]; simp)] at hT
  rw [if_neg (by rw [Ae, Ac]; simp)]
  by_cases h4 : 4000 < p.length
  ·rw [if_pos (by rw [As, Ac]; simp; omega)] at hT ⊢
   rw [Ag, Aa]
   simp only
   exact ⟨_, rfl, rp4 hT⟩
  ·rw [if_neg (by rw [As, Ac]; simp; omega)] at hT ⊢
   rw [Wb, Ab4]
   exact ⟨_, rfl, rp4 hT⟩
 ·have hlt : A < g.length := by omega
  have h5 := g5 g[A] (List.getElem_mem hlt)
  have hsum := Bct g5 g[A] (List.getElem_mem hlt)
  rw [if_neg (by rw [Az, Ac]; simp; omega), Lg, Ll, Cl hlt, Aa] at hT
  rw [if_pos (by rw [Ae, Ac]; simp; omega), Cl hlt, Aa, Aa]
  by_cases hw : (p.length : Int) < g[A]
  ·rw [if_pos (by rw [Ae, Ac]; simpa using hw)] at hT ⊢
   rw [Aa] at hT
   simp only at hT
   rw [if_pos (by decide)] at hT
   rw [Big]
   exact ⟨_, rfl, rp4 hT⟩
  rw [if_neg (by rw [Ae, Ac]; simpa using hw)] at hT ⊢
  have hnum := hd.num
  have hlt2 : A < (framesL (longN R) N).length := by omega
  obtain ⟨m, hm, m1, m2⟩ := Aso (Aib R) hnum.2.2.2.2.1 (List.getElem_mem hlt2)
  have hb : Dg w := by rw [hd.ew]; unfold Dg; omega
  obtain ⟨xs, e, d1, d2, d3, d4⟩ := Avo (bits := w) (ch := C) (n := m) (t := Ap8 o) (p.take g[A].toNat) hb (Amo o) hnum.2.1.1 hnum.2.1.2 m1 (by omega)
  have hnn := Bbo hb (Amo o) hnum.2.1.1 hnum.2.1.2 m1 (by omega) d2
  rw [Bco o ho, Aa]
  simp only
  rw [if_neg (by decide), hd.Auf, Aa]
  simp only
  rw [if_neg (by simp [Aj, Dq, Ac]; omega), Wf, Adl, Cl hlt2, Aa, Dc (by omega) (by omega), Aa, Aa, Zv, Aa]
  simp only
  rw [hm, d1, Aa]
  simp only
  rw [Be0 o ho, Aa] at hT
  simp only at hT
  rw [Dc (by omega) (by omega), Aa, Jf, Aa] at hT
  simp only at hT
  rw [hd.Bs2, Aa, Cl hlt2, Aa, Aa, hm] at hT
  rw [d2, Aa] at hT
  simp only at hT
  rw [Li, Sf] at hT
  rw [Ac6, Wj]
  by_cases he : e ≠ 0
  ·rw [if_pos (by rw [Aj]; simpa using he)] at hT ⊢
   rw [Aa] at hT
   simp only at hT
   rw [if_pos (by rw [Aj]; simpa using he)] at hT
   rw [Ag, Aa]
   simp only
   rw [Big]
   exact ⟨_, rfl, (rp4 hT).trans (by rw [Ay8 hnn]; rfl)⟩
  ·have he0 : e = 0 := by simpa using he
   obtain ⟨k1, k2, k3⟩ := d3 he0
   have hbl := Ajy w xs
   rw [if_neg (by rw [Aj, he0]; simp)] at hT ⊢
   rw [Bcg hb k2 k1, Aa, Aa] at hT
   simp only at hT
   rw [if_neg (by decide), Cc (by simp; omega), Aa, List.nil_append, Cc (by omega), Aa, Aa, Cp (by omega) (by omega), Aa] at hT
   rw [Azm hb k2 k1, Aa]
   simp only
   rw [if_neg (by decide), Cc (by omega), Aa, Cp (by omega) (by omega), Aa, Big]
   exact ⟨_, rfl, rp4 hT⟩
end Go.Pl
set_option linter.unusedVariables false
set_option linter.unusedSimpArgs false
namespace Go.Pl
open Go Go.Lv
theorem Bhk (a : LI) (b : Int) (ha : a.length ≤ 100) : ∀ (j i q : Nat), i + j = a.length → j < q → ∃ r, Bg a b q (i : Int) = some r ∧ Ud r 0 = (a.drop i).any fun y => b == y
 | 0, i, q + 1, hi, _ => by
  refine ⟨-1, ?_, ?_⟩
  ·rw [Bg, Df, if_neg (by rw [Ae, Ac]; simp; omega)]; rfl
  ·rw [show i = a.length by omega, List.drop_length]; rfl
 | j + 1, i, q + 1, hi, hq => by
  have hlt : i < a.length := by omega
  obtain ⟨r, h1, h2⟩ := Bhk a b ha j (i + 1) q (by omega) (by omega)
  rw [Bg, Df, if_pos (by rw [Ae, Ac]; simp; omega), Cl hlt, Aa, drop_cons hlt, List.any_cons]
  by_cases h : b = a[i]
  ·rw [if_pos (by rw [Az]; simpa using h)]
   refine ⟨_, rfl, ?_⟩
   rw [Dq, decide_eq_true (by omega), h]; simp
  ·rw [if_neg (by rw [Az]; simpa using h), Ah (by omega) (by omega)]
   refine ⟨r, h1, ?_⟩
   rw [h2, beq_eq_false_iff_ne.2 h, Bool.false_or]
theorem Bo2 (v : Int) : ∃ B : Bool, Pz v = some B ∧ Oh v = some B := by
 obtain ⟨r, h1, h2⟩ := Bhk [4, 12, 16, 22, 24, 26, 38] v (by decide) 7 0 Ay rfl (by have := Aq; omega)
 refine ⟨_, ?_, rfl⟩
 rw [Pz, Gp, Hy, Gi, Gk]
 have h1' : Bg [4, 12, 16, 22, 24, 26, 38] v Ay 0 = some r := h1
 rw [h1', Aa, Aa, h2]
 simp only [List.drop_zero, List.any_cons, List.any_nil, Bool.or_false, Az, Bool.or_assoc]
theorem Aqh (B : Bool) : Bc B = some (if B = true then 0 else 8) := by
 rw [Bc, Ake]; cases B <;> rfl
theorem Bk6 (a b : LB) (f g h k m : Int) (n : LI) (o : Int) (p : LB) (u : Bool) (v : Int) (hb : b.length ≤ 1000000) (hn : n.length ≤ 1000000) (hp : p.length ≤ 1000000) :
  Cf a b f g h k m n o p u v = some (a, b, f, g, h, k, m, n, o, p, u, v) := by
 rw [Cf, Hc, Cc (by simp; omega), Aa, Aa, Hc, Cc (by simp; omega), Aa, Aa, Es, Cc (by simp; omega), Aa, Aa]
 rfl
theorem Bab (o p : LB) (f c w r n : Int) (g : LI) (a : Int) (x : LB) (u : Bool) (v : Int) (hp : p.length ≤ 100000) (hg : g.length ≤ 100000) (hx : x.length ≤ 100000) :
  ∃ E, Jj o p f c w r n g a x u v = some E ∧ Ix o p f c w r n g a x u v = some E := by
 rw [Jj, Rw, Ix]
 by_cases ho : 64 < o.length
 ·rw [if_pos (by rw [As, Ac]; simp; omega), if_pos (by rw [As, Ac]; simp; omega)]
  exact ⟨8, rfl, rfl⟩
 have hO : ¬ (Gf (Ac o) 64 = true) := by rw [As, Ac]; simp; omega
 rw [if_neg hO, if_neg hO]
 by_cases hw : (geq v 0 && !u) = true
 ·rw [if_pos hw, if_pos hw, Bk6 o p f c w r n g a x u v (by omega) (by omega) (by omega), Aa]
  simp only
  rcases Ay9 o p f c w r n g a x u v with ⟨e1, e2⟩ | ⟨e1, e2, hd⟩
  ·rw [e1, e2, Aa, Aa, if_neg (by decide), if_pos (by decide), Aqh]
   exact ⟨8, rfl, rfl⟩
  ·rw [e1, e2, Aa, if_pos rfl]
   have key : ∃ B : Bool, Bh1 o p f c w r n g a x u v = Bc B ∧ Bu o p f c w r n g a x u v = some B := by
    cases hd with
    | new e1 e2 e3 e4 e5 e6 e7 e8 => subst e1; exact Bl3 o p c w r n g a x u v hp
    | head F C W R N h hpw e6 e7 e8 => subst e6; exact Btl h o p (by omega) hp a x u v
    | tab F C W R N A h hpw ht hl ea hA => subst ea; exact Bnf h o p (by omega) hp g ht hl A hA x hx u v
   obtain ⟨B, k1, k2⟩ := key
   rw [k2, Aa]
   refine ⟨if B = true then 0 else 8, k1.trans (Aqh B), ?_⟩
   cases B <;> rfl
 ·rw [if_neg hw, if_neg hw]
  by_cases hl : (geq (Ac p) 0 && geq (Ac g) 0) = true
  ·rw [if_pos hl, if_pos hl]
   generalize (geq f 0 && (geq c 0 && (geq w 0 && (geq r 0 && (geq n 0 && true))))) = z
   by_cases hz : ((z && geq a 0) && gle (Ac x) 12000) = true
   ·rw [if_pos hz]
    simp only [Bool.and_eq_true, Aoh, Ac, decide_eq_true_eq] at hz
    obtain ⟨⟨z1, z2⟩, z3⟩ := hz
    have hN : ¬ ((!(z && geq a 0) || Gf (Ac x) 12000) = true) := by rw [z1, z2, As, Ac]; simp; omega
    rw [if_neg hN]
    by_cases hv : v = 0
    ·have v1 : geq v 0 = true := by rw [Az]; simpa using hv
     have v2 : ¬ (Bn v 0 = true) := by rw [Aj]; simpa using hv
     rw [if_pos v1, if_neg v2, Aqh]
     exact ⟨0, rfl, rfl⟩
    ·have v1 : ¬ (geq v 0 = true) := by rw [Az]; simpa using hv
     have v2 : Bn v 0 = true := by rw [Aj]; simpa using hv
     rw [if_neg v1, if_pos v2]
     obtain ⟨B, k1, k2⟩ := Bo2 v
     rw [k1, k2, Aa, Aa, Aqh, Aqh]
     cases u
     ·refine ⟨if B = true then 0 else 8, by simp, ?_⟩
      cases B <;> rfl
     ·exact ⟨8, rfl, rfl⟩
   ·rw [if_neg hz, if_pos, Aqh]
    ·exact ⟨8, rfl, rfl⟩
    ·simp only [Bool.and_eq_true, Aoh, Ac, decide_eq_true_eq] at hz
     simp only [Bool.or_eq_true, Bool.not_eq_true', As, Ac, decide_eq_true_eq]
     by_cases hz2 : (z && geq a 0) = true
     ·rw [Bool.and_eq_true] at hz2
      exact .inr (by have hq : ¬ ((x.length : Int) ≤ 12000) := fun h => hz ⟨hz2, h⟩; omega)
     ·exact .inl (by simpa using hz2)
  ·rw [if_neg hl, if_neg hl, if_neg (by simp), if_pos (by simp), Aqh]
   exact ⟨8, rfl, rfl⟩
end Go.Pl
set_option linter.unusedVariables false
set_option linter.unusedSimpArgs false
namespace Go.Pl
open Go Go.Lv
def feedP (bk : LB → Int → Int → Int → Int → Int → Int → LI → LB → pushdec_Feed_O) (o : LB) (u : Bool) (v : Int) : LB → Int → Int → Int → Int → Int → Int → LI → LB → pushdec_Feed_O :=
 Gz (Ma bk o u v) (Rz bk o u v) (Iz bk o u v) (Rg bk o u v) (Jh bk o u v) (Lz bk o u v) (Qv bk o u v) (Bi bk o u v) (Ys bk o u v) o u v
structure SzD (p : LB) (g : LI) (a : Int) (x : LB) : Prop where
 hp : p.length ≤ 100000
 hg : g.length ≤ 1000
 hx : x.length + 12000 * (g.length - a.toNat) ≤ 13000000
def muD (f : Int) (g : LI) (a : Int) : Nat := if f = 0 then 1003 else if g = [] then 1002 else g.length - a.toNat + 1
section
variable {bk : LB → Int → Int → Int → Int → Int → Int → LI → LB → pushdec_Feed_O} {o p : LB} {f c w r n : Int} {g : LI} {a : Int} {x : LB} {u : Bool} {v : Int}
theorem Bpg (hp : p.length ≤ 100000) (hg : g.length ≤ 1000) (hx : x.length ≤ 13000000) : Cf o p f c w r n g a x u v = some (o, p, f, c, w, r, n, g, a, x, u, v) := by
 rw [Cf, Hc, Cc (by simp; omega), Aa, Aa, Hc, Cc (by simp; omega), Aa, Aa, Es, Cc (by simp; omega), Aa, Aa]
 rfl
theorem Bv6 (h : SzD p g a x) (e : Int) : Bi bk o u v p f c w r n a true e g x = some (o, p, f, c, w, r, n, g, a, x, u, v, 0) := by
 rw [Bi, Ae2, if_pos rfl, Bpg h.hp h.hg (by have := h.hx; omega), Aa]
theorem Bwb {e : Int} (h : e ≠ 0) : Bi bk o u v p f c w r n a false e g x = some (o, [], 0, 0, 0, 0, 0, [], 0, x, false, e, e) := by
 rw [Bi, Ae2, if_neg (by decide), if_pos (by rw [Aj]; simpa using h)]; rfl
inductive StepR (bk : LB → Int → Int → Int → Int → Int → Int → LI → LB → pushdec_Feed_O) (o p : LB) (f c w r n : Int) (g : LI) (a : Int) (x : LB) (u : Bool) (v : Int) : Prop
 | wait : feedP bk o u v p f c w r n a g x = some (o, p, f, c, w, r, n, g, a, x, u, v, 0) → cadenzaref37_take o p f c w r n g a x u v = some (o, p, f, c, w, r, n, g, a, x, u, v, -1) → StepR bk o p f c w r n g a x u v
 | err (e : Int) {t1 t2 : LB} {t3 t4 t5 t6 t7 : Int} {t8 : LI} {t9 : Int} {t10 : LB} {t11 : Bool} {t12 : Int} : 0 < e → feedP bk o u v p f c w r n a g x = some (o, [], 0, 0, 0, 0, 0, [], 0, x, false, e, e) →
   cadenzaref37_take o p f c w r n g a x u v = some (t1, t2, t3, t4, t5, t6, t7, t8, t9, t10, t11, t12, e) → StepR bk o p f c w r n g a x u v
 | next (p' : LB) (f' c' w' r' n' : Int) (g' : LI) (a' : Int) (x' : LB) : feedP bk o u v p f c w r n a g x = bk p' f' c' w' r' n' a' g' x' → cadenzaref37_take o p f c w r n g a x u v = some (o, p', f', c', w', r', n', g', a', x', u, v, 0) →
   FitD o f' c' w' r' n' g' a' x' → SzD p' g' a' x' → muD f' g' a' < muD f g a → StepR bk o p f c w r n g a x u v
theorem f62 {d : Bool} {e : Int} : Ma bk o u v a g x d e p f c w r n = Bi bk o u v p f c w r n a d e g x := rfl
theorem f75 {d : Bool} {e : Int} : Iz bk o u v f c w r n a x d e p g = Bi bk o u v p f c w r n a d e g x := rfl
theorem f78 {d : Bool} {e : Int} : Lz bk o u v f c w r n g d e p a x = Bi bk o u v p f c w r n a d e g x := rfl
theorem mkW (hZ : SzD p g a x) (hF : feedP bk o u v p f c w r n a g x = Bi bk o u v p f c w r n a true 0 g x) (hT : cadenzaref37_take o p f c w r n g a x u v = some (o, p, f, c, w, r, n, g, a, x, u, v, -1)) : StepR bk o p f c w r n g a x u v :=
 .wait (hF.trans (Bv6 hZ 0)) hT
theorem mkE {e : Int} {p2 : LB} {f2 c2 w2 r2 n2 a2 : Int} {g2 : LI} {t1 t2 : LB} {t3 t4 t5 t6 t7 : Int} {t8 : LI} {t9 : Int} {t10 : LB} {t11 : Bool} {t12 : Int} (he : 0 < e) (hF : feedP bk o u v p f c w r n a g x = Bi bk o u v p2 f2 c2 w2 r2 n2 a2 false e g2 x)
  (hT : cadenzaref37_take o p f c w r n g a x u v = some (t1, t2, t3, t4, t5, t6, t7, t8, t9, t10, t11, t12, e)) : StepR bk o p f c w r n g a x u v := .err e he (hF.trans (Bwb (by omega))) hT
theorem HdI.fnz {F C W R N : Nat} (h : HdI f c w r n F C W R N) : f ≠ 0 := by
 have := h.num
 rw [h.ef]; omega
theorem Boa (hp : p.length ≤ 100000) : StepR bk o p 0 0 0 0 0 [] 0 [] u v := by
 have hZ : SzD p [] 0 [] := ⟨hp, by simp, by simp⟩
 have hT : cadenzaref37_take o p 0 0 0 0 0 [] 0 [] u v = cadenzaref37_take o p 0 0 0 0 0 [] 0 [] u v := rfl
 conv at hT => rhs; rw [cadenzaref37_take, Cq, if_pos (by decide), Az0 p hp, Aa, stS]
 have hF : feedP bk o u v p 0 0 0 0 0 0 [] [] = feedP bk o u v p 0 0 0 0 0 0 [] [] := rfl
 conv at hF => rhs; rw [feedP, Gz, if_pos (by decide), Ajh p (by omega), Aa]
 have hfn := Bb1 p
 have hrn := Bgh (hdr p)
 have hok := Aq1 (b := p)
 simp only at hT hF
 by_cases h1 : (Gn p).2 = 24
 ·rw [if_pos h1] at hT
  simp only at hT
  rw [if_pos (by decide)] at hT
  rw [if_pos (by rw [Az]; simpa using h1)] at hF
  exact mkW hZ hF hT
 rw [if_neg h1] at hT
 rw [if_neg (by rw [Az]; simpa using h1)] at hF
 by_cases h2 : (Gn p).2 ≠ 0
 ·rw [if_pos h2] at hT
  simp only at hT
  rw [if_pos (by rw [Aj]; simpa using h2)] at hT
  rw [if_pos (by rw [Aj]; simpa using h2), Ag, Aa] at hF
  exact mkE (by omega) hF hT
 have h0 : (Gn p).2 = 0 := by simpa using h2
 obtain ⟨k1, k2, k3⟩ := hok h0
 have hl : (hdr p).length = p.length - (Gn p).1.toNat := by rw [hdr, List.length_drop]
 rw [if_neg h2] at hT
 rw [if_neg (by rw [Aj, h0]; simp), Cp (by omega) (by omega), Aa, Aa, show p.drop (Gn p).1.toNat = hdr p from rfl, Bob, Aa] at hF
 by_cases h3 : (An2 (hdr p) ID3 || An2 (hdr p) APX) = true
 ·rw [if_pos h3] at hT hF
  simp only at hT
  rw [if_pos (by decide)] at hT
  exact mkW hZ hF hT
 rw [if_neg h3] at hT hF
 rw [Auo _ (by omega), Aa] at hF
 by_cases h5 : (Gs (hdr p)).2.2.2.2.2 = 24
 ·rw [if_pos h5] at hT
  simp only at hT
  rw [if_pos (by decide)] at hT
  rw [if_pos (by rw [Az]; simpa using h5)] at hF
  exact mkW hZ hF hT
 rw [if_neg h5] at hT
 rw [if_neg (by rw [Az]; simpa using h5)] at hF
 simp only at hT
 by_cases h6 : (Gs (hdr p)).2.2.2.2.2 ≠ 0
 ·rw [if_pos (by rw [Aj]; simpa using h6)] at hT hF
  rw [Ag, Aa] at hF
  exact mkE (by have := hrn; generalize (Gs (hdr p)).2.2.2.2.2 = z at *; omega) (hF.trans f62) hT
 have h7 : (Gs (hdr p)).2.2.2.2.2 = 0 := by simpa using h6
 obtain ⟨r1, h22, r3, r4⟩ := Bf8 h7
 rw [if_neg (by rw [Aj, h7]; simp), Cp (by omega) (by omega), Aa, Ot, Xq, Gw] at hT
 rw [if_neg (by rw [Aj, h7]; simp), Ah (by omega) (by omega), Cp (by omega) (by omega), Aa, Rz, Aep, Mk] at hF
 simp only at hT hF
 by_cases h8 : ((o == ([] : LB)) != geq (Gs (hdr p)).1 1) = true
 ·rw [if_pos h8] at hT hF
  rw [Aa] at hT hF
  rw [Ag, Aa] at hF
  simp only at hF
  exact mkE (by decide) (hF.trans f62) hT
 ·rw [if_neg h8] at hT hF
  rw [Aa] at hT hF
  rw [Ag, Aa] at hF
  have hd : HdI (Gs (hdr p)).1 (Gs (hdr p)).2.1 (Gs (hdr p)).2.2.1 (Gs (hdr p)).2.2.2.1 (Gs (hdr p)).2.2.2.2.1 (f0 (hdr p)) (f1 (hdr p)) (f2 (hdr p)) (f3 (hdr p)) (f4 (hdr p)) := by
   constructor <;> first | (rw [r1]) | assumption
  refine .next _ _ _ _ _ _ [] 0 [] (by exact hF) hT (.head _ _ _ _ _ hd ?_ rfl rfl rfl) ⟨by rw [List.length_drop]; omega, by simp, by simp⟩ ?_
  ·have e : geq (Gs (hdr p)).1 1 = decide (f0 (hdr p) = 1) := by rw [hd.ef, Az, Bool.eq_iff_iff]; simp; omega
   rw [← e]; simpa using h8
  ·rw [muD, muD, if_neg hd.fnz, if_pos rfl, if_pos rfl]; omega
section
variable {F C W R N : Nat} (hd : HdI f c w r n F C W R N)
include hd
theorem Bk1 (hp : p.length ≤ 100000) (hpw : (o == ([] : LB)) = decide (F = 1)) (A : Nat) (hA : A ≤ p.length)
  (hT : cadenzaref37_take o p f c w r n [] 0 [] u v = (Fe p f c w r n (A : Int)).bind (fun (ag, ak, w1) => if (Bn w1 0) then some (o, p, f, c, w, r, n, ([] : LI), (0 : Int), ([] : LB), u, v, w1) else (Bb p ag (Ac p)).bind fun al => some (o, al, f, c, w, r, n, ak, (0 : Int), ([] : LB), u, v, (0 : Int))))
  (hF : feedP bk o u v p f c w r n 0 [] [] = Jh bk o u v p f c w r n 0 [] [] (A : Int)) : StepR bk o p f c w r n [] 0 [] u v := by
 have hZ : SzD p [] 0 [] := ⟨hp, by simp, by simp⟩
 obtain ⟨_, t2, t3⟩ := Bnv hd o p hp A hA 0 [] u v
 have hs := Ba9 (p.drop A) (framesL (longN R) N).length (by rw [List.length_drop]; omega)
 have hnn := Bfa (p.drop A) (framesL (longN R) N).length
 have hok := Bgv (b := p.drop A) (n := (framesL (longN R) N).length)
 rw [t2, Aa] at hT
 rw [Jh, Aet, hd.Auf, Aa] at hF
 simp only at hF
 rw [if_neg (by decide), Cp (by omega) (by omega), Aa, Int.toNat_natCast, Ac, hs, Aa] at hF
 generalize hz : Ni (p.drop A) (framesL (longN R) N).length = z at *
 obtain ⟨z1, z2⟩ := z
 simp only at *
 by_cases h1 : z2 = 24
 ·rw [if_pos h1] at hT
  simp only at hT
  rw [if_pos (by decide)] at hT
  rw [if_pos (by rw [Az]; simpa using h1)] at hF
  exact mkW hZ hF hT
 rw [if_neg h1] at hT
 rw [if_neg (by rw [Az]; simpa using h1)] at hF
 simp only at hT
 by_cases h2 : z2 ≠ 0
 ·rw [if_pos (by rw [Aj]; simpa using h2)] at hT hF
  rw [Ag, Aa] at hF
  exact mkE (by omega) hF hT
 ·have h0 : z2 = 0 := by simpa using h2
  subst h0
  have h3 := t3 rfl
  obtain ⟨k1, k2, k3, k4, k5, k6⟩ := hok rfl
  simp only [Prod.mk.injEq, and_true] at k1
  have hl : z1.length = (framesL (longN R) N).length := by rw [k1]; exact Af9 _ _
  rw [← k1] at k5 k6
  rw [if_neg (by decide), Cp (by omega) (by omega), Aa] at hT
  rw [if_neg (by decide), Ac, Bit A z1.length (by omega) (by omega), Cp (by omega) (by omega), Aa] at hF
  have hne : z1 ≠ [] := by intro e; rw [e] at hl; simp at hl; omega
  refine .next _ _ _ _ _ _ z1 0 [] (by exact hF) hT (.tab _ _ _ _ _ 0 hd hpw ?_ hl rfl (by omega)) ⟨by rw [List.length_drop]; omega, by omega, by simp; omega⟩ ?_
  ·rw [tabB, Bool.and_eq_true, decide_eq_true_eq, Aqx z1 100000 (by omega)]
   exact ⟨by omega, k5, k6⟩
  ·rw [muD, muD, if_neg hd.fnz, if_neg hd.fnz, if_pos rfl, if_neg hne]
   simp; omega
theorem Bl2 (ho : o.length ≤ 64) (hp : p.length ≤ 100000) (hpw : (o == ([] : LB)) = decide (F = 1)) : StepR bk o p f c w r n [] 0 [] u v := by
 have hZ : SzD p [] 0 [] := ⟨hp, by simp, by simp⟩
 have hT : cadenzaref37_take o p f c w r n [] 0 [] u v = cadenzaref37_take o p f c w r n [] 0 [] u v := rfl
 conv at hT => rhs; rw [cadenzaref37_take, Cq, if_neg hd.ne0, Gy, Em, if_pos (by decide), Kw, Ln]
 have hF : feedP bk o u v p f c w r n 0 [] [] = feedP bk o u v p f c w r n 0 [] [] := rfl
 conv at hF => rhs; rw [feedP, Gz, if_neg hd.ne0, if_pos (by decide)]
 by_cases h2 : geq f 2 = true
 ·rw [if_pos h2] at hT hF
  by_cases h8 : p.length < 8
  ·rw [if_pos (by rw [Ae, Ac]; simp; omega)] at hT hF
   rw [Aa] at hT
   simp only at hT
   rw [if_pos (by decide)] at hT
   exact mkW hZ hF hT
  ·rw [if_neg (by rw [Ae, Ac]; simp; omega)] at hT hF
   have h8' : (p.take 8).length = 8 := by rw [List.length_take]; omega
   rw [Dc (by omega) (by omega), Aa, Bb6 o ho, Aa] at hT
   rw [Rg, Aen, Dc (by omega) (by omega), Aa, show (8 : Int).toNat = 8 from rfl, Bf2 h8' ho, Aa] at hF
   rw [show (8 : Int).toNat = 8 from rfl] at hT
   simp only at hF
   rw [Ae5, Aei, if_neg (by decide)] at hF
   by_cases he : (p.take 8 == leB (Abw o).toNat 8) = true
   ·rw [if_neg (by rw [bne, he]; decide)] at hT
    rw [if_neg (by rw [he]; decide)] at hF
    exact Bk1 hd hp hpw 8 (by omega) hT hF
   ·have he' : (p.take 8 == leB (Abw o).toNat 8) = false := by simpa using he
    rw [if_pos (by rw [bne, he']; decide), Aa] at hT
    simp only at hT
    rw [if_pos (by decide)] at hT
    rw [if_pos (by rw [he']; decide), Ag, Aa] at hF
    simp only at hF
    exact mkE (by decide) (hF.trans f75) hT
 ·rw [if_neg h2] at hT hF
  exact Bk1 hd hp hpw 0 (by omega) hT hF
theorem Bod (ho : o.length ≤ 64) (hpw : (o == ([] : LB)) = decide (F = 1)) (hg : tabB g = true) (hl : g.length = (framesL (longN R) N).length) (A : Nat) (hA : A ≤ g.length) (hZ : SzD p g (A : Int) x) : StepR bk o p f c w r n g (A : Int) x u v := by
 have hp := hZ.hp
 have hx := hZ.hx
 have hc := hd.ec
 subst hc
 have hg' := hg
 rw [tabB, Bool.and_eq_true, decide_eq_true_eq, Aqx g 100000 (by omega)] at hg'
 obtain ⟨⟨g1, g2⟩, g5, g6⟩ := hg'
 have hgn : ¬ (geq (Ac g) 0 = true) := by rw [Az, Ac]; simp; intro e; subst e; simp at g1
 have hT : cadenzaref37_take o p f (C : Int) w r n g (A : Int) x u v = cadenzaref37_take o p f (C : Int) w r n g (A : Int) x u v := rfl
 conv at hT => rhs; rw [cadenzaref37_take, Cq, if_neg hd.ne0, Gy, Em, if_neg hgn]
 have hF : feedP bk o u v p f (C : Int) w r n (A : Int) g x = feedP bk o u v p f (C : Int) w r n (A : Int) g x := rfl
 conv at hF => rhs; rw [feedP, Gz, if_neg hd.ne0, if_neg hgn]
 by_cases hA2 : A = g.length
 ·subst hA2
  rw [if_pos (by rw [Az, Ac]; simp)] at hT
  rw [if_neg (by rw [Ae, Ac]; simp)] at hF
  by_cases h4 : 4000 < p.length
  ·rw [if_pos (by rw [As, Ac]; simp; omega)] at hT hF
   rw [Ag, Aa] at hF
   exact mkE (by decide) hF hT
  ·rw [if_neg (by rw [As, Ac]; simp; omega)] at hT hF
   exact mkW hZ hF hT
 ·have hlt : A < g.length := by omega
  have h5 := g5 g[A] (List.getElem_mem hlt)
  have hsum := Bct g5 g[A] (List.getElem_mem hlt)
  rw [if_neg (by rw [Az, Ac]; simp; omega), Lg, Ll, Cl hlt, Aa] at hT
  rw [if_pos (by rw [Ae, Ac]; simp; omega), Cl hlt, Aa, Aa] at hF
  by_cases hw : (p.length : Int) < g[A]
  ·rw [if_pos (by rw [Ae, Ac]; simpa using hw)] at hT hF
   rw [Aa] at hT
   simp only at hT
   rw [if_pos (by decide)] at hT
   exact mkW hZ hF hT
  rw [if_neg (by rw [Ae, Ac]; simpa using hw)] at hT hF
  have hnum := hd.num
  have hlt2 : A < (framesL (longN R) N).length := by omega
  obtain ⟨m, hm, m1, m2⟩ := Aso (Aib R) hnum.2.2.2.2.1 (List.getElem_mem hlt2)
  have hb : Dg w := by rw [hd.ew]; unfold Dg; omega
  obtain ⟨xs, e, d1, d2, d3, d4⟩ := Avo (bits := w) (ch := C) (n := m) (t := Ap8 o) (p.take g[A].toNat) hb (Amo o) hnum.2.1.1 hnum.2.1.2 m1 (by omega)
  have hnn := Bbo hb (Amo o) hnum.2.1.1 hnum.2.1.2 m1 (by omega) d2
  rw [Bco o ho, Aa] at hF
  simp only at hF
  rw [if_neg (by decide), hd.Auf, Aa] at hF
  simp only at hF
  rw [if_neg (by simp [Aj, Dq, Ac]; omega), Qv, Aeo, Cl hlt2, Aa, Dc (by omega) (by omega), Aa, Aa, Zv, Aa] at hF
  simp only at hF
  rw [hm, d1, Aa] at hF
  simp only at hF
  rw [Be0 o ho, Aa] at hT
  simp only at hT
  rw [Dc (by omega) (by omega), Aa, Jf, Aa] at hT
  simp only at hT
  rw [hd.Bs2, Aa, Cl hlt2, Aa, Aa, hm] at hT
  rw [d2, Aa] at hT
  simp only at hT
  rw [Li, Sf] at hT
  rw [Aef, Yl] at hF
  by_cases he : e ≠ 0
  ·rw [if_pos (by rw [Aj]; simpa using he)] at hT hF
   rw [Aa] at hT
   simp only at hT
   rw [if_pos (by rw [Aj]; simpa using he)] at hT
   rw [Ag, Aa] at hF
   exact mkE (by omega) hF hT
  ·have he0 : e = 0 := by simpa using he
   obtain ⟨k1, k2, k3⟩ := d3 he0
   have hbl := Ajy w xs
   have ht : ((A : Int)).toNat = A := rfl
   rw [ht] at hx
   rw [if_neg (by rw [Aj, he0]; simp)] at hT hF
   rw [Bcg hb k2 k1, Aa, Aa] at hT
   simp only at hT
   rw [if_neg (by decide), Cc (by simp; omega), Aa, List.nil_append, Cc (by omega), Aa, Aa, Cp (by omega) (by omega), Aa, Ah (by omega) (by omega)] at hT
   rw [Azm hb k2 k1, Aa] at hF
   simp only at hF
   rw [if_neg (by decide), Cc (by omega), Aa, Cp (by omega) (by omega), Aa, Ah (by omega) (by omega)] at hF
   have e1 : ((A : Int) + 1).toNat = A + 1 := rfl
   refine .next _ _ _ _ _ _ _ _ _ (by exact hF) hT (.tab _ _ _ _ _ (A + 1) hd hpw hg hl rfl (by omega)) ⟨by rw [List.length_drop]; omega, hZ.hg, by rw [e1, List.length_append]; omega⟩ ?_
   have hne : g ≠ [] := by intro e; subst e; simp at g1
   rw [muD, muD, if_neg hd.fnz, if_neg hd.fnz, if_neg hne, if_neg hne, e1, ht]
   omega
end
theorem Bnq (hf : FitD o f c w r n g a x) (ho : o.length ≤ 64) (hZ : SzD p g a x) : StepR bk o p f c w r n g a x u v := by
 cases hf with
 | new e1 e2 e3 e4 e5 e6 e7 e8 => subst e1 e2 e3 e4 e5 e6 e7 e8; exact Boa hZ.hp
 | head F C W R N h hpw e6 e7 e8 => subst e6 e7 e8; exact Bl2 h ho hZ.hp hpw
 | tab F C W R N A h hpw ht hl ea hA => subst ea; exact Bod h ho hpw ht hl A hA hZ
end
end Go.Pl
set_option linter.unusedVariables false
set_option linter.unusedSimpArgs false
namespace Go.Pl
open Go Go.Lv
theorem Bnz (a b : LB) (f g h k m : Int) (n : LI) (o : Int) (p : LB) (u : Bool) (v : Int) : ∃ B : Bool, Tk a b f g h k m n o p u v = some B ∧ (B = false → b.length ≤ 5000 ∧ n.length ≤ 1010 ∧ p.length ≤ 12100) := by
 rw [Tk]
 split
 ·exact ⟨_, rfl, fun e => by simp at e⟩
 ·rename_i hc
  refine ⟨_, rfl, fun e => ?_⟩
  simp only [Bool.or_eq_true, As, Ac, decide_eq_true_eq, not_or] at hc
  simp only [Bool.or_eq_false_iff, As, Ac, decide_eq_false_iff_not] at e
  omega
theorem Brk (w : LB) : ∃ B : Bool, We w = some B ∧ (B = false → w.length ≤ 12100) := by
 rw [We]
 refine ⟨_, rfl, fun e => ?_⟩
 simp [As, Ae, Ac] at e
 omega
end Go.Pl
set_option linter.unusedVariables false
set_option linter.unusedSimpArgs false
namespace Go.Pl
open Go Go.Lv
abbrev Bxu := LB × LB × Int × Int × Int × Int × Int × LI × Int × LB × Bool × Int × Int
def Res (X Y : Option Bxu) : Prop := ∃ (t1 t2 : LB) (t3 t4 t5 t6 t7 : Int) (t8 : LI) (t9 : Int) (t10 : LB) (t11 : Bool) (t12 e : Int), X = some (t1, t2, t3, t4, t5, t6, t7, t8, t9, t10, t11, t12, e) ∧ Y = some (t1, t2, t3, t4, t5, t6, t7, t8, t9, t10, t11, t12, e) ∧ t8.length ≤ 2000
theorem Bqk : ∀ (j : Nat) (b : LB) (a : Nat), (Bd0 j b a).2 = 0 ∨ (Bd0 j b a).2 = 38
 | 0, _, _ => .inr rfl
 | j + 1, b, a => by
  rw [Bd0]
  split
  ·exact .inl rfl
  ·split
   ·exact .inr rfl
   ·exact Bqk j _ _
theorem Bm2 (b : LB) : (Aj3 b).2 = 0 ∨ (Aj3 b).2 = 38 := by
 rw [Aj3]
 split
 ·exact .inr rfl
 ·exact Bqk _ _ _
theorem Ap0 {o p : LB} {f c w r n : Int} {g : LI} {a : Int} {x : LB} {u : Bool} {v : Int} (hp : p.length ≤ 100000) (hg : g.length ≤ 2000) (hx : x.length ≤ 13000000) : Fs o p f c w r n g a x u v = some (o, p, f, c, w, r, n, g, a, x, u, v) := by
 rw [Fs, Oi, Cc (by simp; omega), Aa, Cc (by simp; omega), Aa, Xh, Af0, Cc (by simp; omega), Aa]
 rfl
theorem Ba3 {o p : LB} {f c w r n : Int} {g : LI} {a : Int} {x : LB} {u : Bool} {v : Int} (hp : p.length ≤ 100000) (hg : g.length ≤ 2000) (hx : x.length ≤ 13000000) : Cf o p f c w r n g a x u v = some (o, p, f, c, w, r, n, g, a, x, u, v) := by
 rw [Cf, Hc, Cc (by simp; omega), Aa, Aa, Hc, Cc (by simp; omega), Aa, Aa, Es, Cc (by simp; omega), Aa, Aa]
 rfl
theorem Azc {o p : LB} {f c w r n : Int} {g : LI} {a : Int} {x : LB} {u : Bool} {v e : Int} (hx : x.length ≤ 13000000) : Lb o p f c w r n g a x u v e = some (o, [], 0, 0, 0, 0, 0, [], 0, x, false, e, e) := by
 rw [Lb, Hp, Cc (by simp; omega), Aa]; rfl
theorem Bbh : ∀ (k q1 q2 : Nat) (o p : LB) (f c w r n : Int) (g : LI) (a : Int) (x : LB) (u : Bool) (v : Int), FitD o f c w r n g a x → o.length ≤ 64 → SzD p g a x → muD f g a < k → k ≤ q1 → k ≤ q2 →
  Res (Au o u v q1 p f c w r n a g x) (Jn q2 o p f c w r n g a x u v)
 | 0, _, _, _, _, _, _, _, _, _, _, _, _, _, _, _, _, _, h, _, _ => by omega
 | k + 1, q1, q2, o, p, f, c, w, r, n, g, a, x, u, v, hf, ho, hZ, hm, h1, h2 => by
  obtain ⟨q1, rfl⟩ : ∃ q, q1 = q + 1 := ⟨q1 - 1, by omega⟩
  obtain ⟨q2, rfl⟩ : ∃ q, q2 = q + 1 := ⟨q2 - 1, by omega⟩
  have hx : x.length ≤ 13000000 := by have := hZ.hx; omega
  rw [Au, Jn, Xy]
  have hS : StepR (Au o u v q1) o p f c w r n g a x u v := Bnq hf ho hZ
  cases hS with
  | wait hF hT =>
   rw [hT, Aa]
   simp only
   rw [if_pos (by decide), Ap0 hZ.hp (by have := hZ.hg; omega) hx, Aa]
   exact ⟨_, _, _, _, _, _, _, _, _, _, _, _, _, hF, rfl, by have := hZ.hg; omega⟩
  | err e he hF hT =>
   rw [hT, Aa]
   simp only
   rw [if_neg (by rw [Ay8 (by omega)]; decide), if_pos (by rw [Aj]; simp; omega), Azc hx, Aa]
   exact ⟨_, _, _, _, _, _, _, _, _, _, _, _, _, hF, rfl, by simp⟩
  | next p' f' c' w' r' n' g' a' x' hF hT hf' hZ' hmu =>
   rw [hT, Aa]
   simp only
   rw [if_neg (by decide), if_neg (by decide)]
   have ih := Bbh k q1 q2 o p' f' c' w' r' n' g' a' x' u v hf' ho hZ' (by omega) (by omega) (by omega)
   have hF' : Gz (Ma (Au o u v q1) o u v) (Rz (Au o u v q1) o u v) (Iz (Au o u v q1) o u v) (Rg (Au o u v q1) o u v) (Jh (Au o u v q1) o u v) (Lz (Au o u v q1) o u v) (Qv (Au o u v q1) o u v) (Bi (Au o u v q1) o u v) (Ys (Au o u v q1) o u v) o u v p f c w r n a g x = Au o u v q1 p' f' c' w' r' n' a' g' x' := hF
   rw [hF']
   exact ih
theorem Bpf {o p : LB} {f c w r n : Int} {g : LI} {a : Int} {x : LB} {u : Bool} {v : Int} (hp : p.length ≤ 100000) (hg : g.length ≤ 100000) (hx : x.length ≤ 100000) (h : Jj o p f c w r n g a x u v = some 0) : o.length ≤ 64 ∧ (v = 0 → u = false → FitD o f c w r n g a x) := by
 rw [Jj, Rw] at h
 by_cases ho : 64 < o.length
 ·rw [if_pos (by rw [As, Ac]; simp; omega)] at h
  cases h
 refine ⟨by omega, fun hv hu => ?_⟩
 subst hv hu
 rw [if_neg (by rw [As, Ac]; simp; omega), if_pos (by decide), Bk6 o p f c w r n g a x false 0 (by omega) (by omega) (by omega), Aa] at h
 simp only at h
 rcases Ay9 o p f c w r n g a x false 0 with ⟨e1, e2⟩ | ⟨e1, e2, hd⟩
 ·rw [e1, Aa, if_neg (by decide), Aqh] at h
  cases h
 ·exact hd
theorem Bup {o p : LB} {f c w r n : Int} {g : LI} {a : Int} {x : LB} (h : FitD o f c w r n g a x) (hp : p.length ≤ 100000) (hx : x.length ≤ 100000) : SzD p g a x := by
 cases h with
 | new e1 e2 e3 e4 e5 e6 e7 e8 => subst e6 e8; exact ⟨hp, by simp, by simp⟩
 | head F C W R N h hpw e6 e7 e8 => subst e6 e8; exact ⟨hp, by simp, by simp⟩
 | tab F C W R N A h hpw ht hl ea hA =>
  rw [tabB, Bool.and_eq_true, decide_eq_true_eq] at ht
  exact ⟨hp, ht.1.2, by omega⟩
theorem Bvt {p : LB} {f : Int} {g : LI} {a : Int} {x : LB} (h : SzD p g a x) : muD f g a < 1004 := by
 have := h.hg
 unfold muD
 split
 ·omega
 ·split <;> omega
section
variable {o p : LB} {f c w r n : Int} {g : LI} {a : Int} {x : LB} {u : Bool} {v : Int} (hp : p.length ≤ 20000) (hg : g.length ≤ 2000) (hx : x.length ≤ 20000)
include hp hg hx
theorem Bei {E : Int} (hE : Jj o p f c w r n g a x u v = some E) : Pm o p f c w r n g a x u v = if E ≠ 0 then some ([], [], 0, 0, 0, 0, 0, [], 0, [], false, 0, E) else some (o, p, f, c, w, r, n, g, a, x, u, v, if v ≠ 0 then v else if u = true then 36 else 0) := by
 rw [Pm, hE, Aa]
 by_cases h : E ≠ 0
 ·rw [if_pos (by rw [Aj]; simpa using h), if_pos h]
 rw [if_neg (by rw [Aj]; simpa using h), if_neg h, Ba3 (by omega) hg (by omega)]
 by_cases hv : v ≠ 0
 ·rw [if_pos (by rw [Aj]; simpa using hv), if_pos hv, Aa]
 ·rw [if_neg (by rw [Aj]; simpa using hv), if_neg hv]
  cases u <;> simp [Aa]
theorem Bly (b : LB) (hb : b.length ≤ 20000) : Res (Ahv o p f c w r n g a x u v b) (Wi o p f c w r n g a x u v b) := by
 obtain ⟨E, e1, e2⟩ := Bab o p f c w r n g a x u v (by omega) (by omega) (by omega)
 rw [Ahv, Ahc, Bei hp hg hx e1, Wi, Yb, e2, Aa]
 by_cases h : E ≠ 0
 ·rw [if_pos h, Aa, if_pos (by rw [Aj]; simpa using h)]
  simp only
  rw [if_pos (by rw [Aj]; simpa using h)]
  exact ⟨_, _, _, _, _, _, _, _, _, _, _, _, _, rfl, rfl, by simp⟩
 have h0 : E = 0 := by simpa using h
 subst h0
 have hE : ¬ (Bn (0 : Int) 0 = true) := by decide
 rw [if_neg h, Aa, if_neg hE, Ap0 (by omega) hg (by omega), Aa]
 simp only
 rw [Jp]
 obtain ⟨k1, k2⟩ := Bpf (by omega) (by omega) (by omega) e1
 by_cases hv : v ≠ 0
 ·have hv' : Bn v 0 = true := by rw [Aj]; simpa using hv
  rw [if_pos hv, if_pos hv', if_pos hv', Aa, if_pos hv']
  exact ⟨_, _, _, _, _, _, _, _, _, _, _, _, _, rfl, rfl, hg⟩
 have hv0 : v = 0 := by simpa using hv
 have hv' : ¬ (Bn v 0 = true) := by rw [Aj]; simpa using hv
 rw [if_neg hv, if_neg hv']
 cases u with
 | true =>
  rw [if_pos rfl, if_pos rfl, Aa, if_pos (by decide), if_pos (by decide)]
  exact ⟨_, _, _, _, _, _, _, _, _, _, _, _, _, rfl, rfl, hg⟩
 | false =>
  rw [if_neg (by decide), if_neg (by decide), Aa, if_neg (by decide), Cc (by omega), Aa, Aa]
  have hf := k2 hv0 rfl
  have hl : (p ++ b).length ≤ 100000 := by rw [List.length_append]; omega
  have hZ := Bup hf hl (by omega : x.length ≤ 100000)
  exact Bbh 1004 Ay Ay o (p ++ b) f c w r n g a x false v hf k1 hZ (Bvt hZ) (by have := Aq; omega) (by have := Aq; omega)
omit hg hx in
theorem Bfv : ∃ e, Ab0 o p f c w r n g a x u v = some e ∧ Qo o p f c w r n g a x u v = some e := by
 rw [Ab0, Qo]
 by_cases h0 : geq f 0 = true
 ·rw [if_pos h0, if_pos h0, Ajh p (by omega), Atr p (by omega), Aa, Aa]
  have hok := Aq1 (b := p)
  simp only
  by_cases h2 : (Gn p).2 ≠ 0
  ·rw [if_pos (by rw [Aj]; simpa using h2), if_pos (by rw [Aj]; simpa using h2)]
   exact ⟨_, rfl, rfl⟩
  have h3 : (Gn p).2 = 0 := by simpa using h2
  obtain ⟨k1, k2, k3⟩ := hok h3
  have hl : (hdr p).length ≤ p.length := by rw [hdr, List.length_drop]; omega
  rw [if_neg (by rw [Aj, h3]; simp), if_neg (by rw [Aj, h3]; simp), Cp (by omega) (by omega), Aa, Aa, show p.drop (Gn p).1.toNat = hdr p from rfl, Auo _ (by omega), Bgq _ (by omega), Aa]
  exact ⟨_, rfl, rfl⟩
 ·rw [if_neg h0, if_neg h0, Bool.or_comm]
  by_cases h1 : (geq (Ac g) 0 || Ci a (Ac g)) = true
  ·rw [if_pos h1, if_pos h1]
   exact ⟨_, rfl, rfl⟩
  ·rw [if_neg h1, if_neg h1, Beu p (by omega), Bh4 p (by omega), Aa, Aa]
   simp only
   refine ⟨(Aj3 p).2, rfl, ?_⟩
   rcases Bm2 p with h | h
   ·rw [if_neg (by rw [h]; decide), h]
   ·rw [if_pos (by rw [h]; decide), h]
theorem Beq : Res (Adf o p f c w r n g a x u v) (Qh o p f c w r n g a x u v) := by
 obtain ⟨E, e1, e2⟩ := Bab o p f c w r n g a x u v (by omega) (by omega) (by omega)
 rw [Adf, Bei hp hg hx e1, Qh, e2, Aa]
 by_cases h : E ≠ 0
 ·rw [if_pos h, Aa, if_pos (by rw [Aj]; simpa using h)]
  simp only
  rw [if_pos (by rw [Aj]; simpa using h)]
  exact ⟨_, _, _, _, _, _, _, _, _, _, _, _, _, rfl, rfl, by simp⟩
 have h0 : E = 0 := by simpa using h
 subst h0
 have hE : ¬ (Bn (0 : Int) 0 = true) := by decide
 rw [if_neg h, Aa, if_neg hE, Ap0 (by omega) hg (by omega), Aa]
 simp only
 rw [Jp]
 by_cases hv : v ≠ 0
 ·have hv' : Bn v 0 = true := by rw [Aj]; simpa using hv
  rw [if_pos hv, if_pos hv', if_pos hv', Aa, if_pos hv']
  exact ⟨_, _, _, _, _, _, _, _, _, _, _, _, _, rfl, rfl, hg⟩
 have hv' : ¬ (Bn v 0 = true) := by rw [Aj]; simpa using hv
 rw [if_neg hv, if_neg hv']
 obtain ⟨e, d1, d2⟩ := Bfv (o := o) (f := f) (c := c) (w := w) (r := r) (n := n) (a := a) (u := u) (v := v) (g := g) (x := x) hp
 cases u with
 | true =>
  rw [if_pos rfl, if_pos rfl, Aa, if_pos (by decide), if_pos (by decide)]
  exact ⟨_, _, _, _, _, _, _, _, _, _, _, _, _, rfl, rfl, hg⟩
 | false =>
  rw [if_neg (by decide), if_neg (by decide), Aa, if_neg (by decide), d1, d2, Aa, Aa]
  by_cases he : Bn e 0 = true
  ·rw [if_pos he, if_pos he, Azc (by omega), Aa]
   exact ⟨_, _, _, _, _, _, _, _, _, _, _, _, _, rfl, rfl, by simp⟩
  ·rw [if_neg he, if_neg he, Hp, Cc (by simp; omega), Aa]
   exact ⟨_, _, _, _, _, _, _, _, _, _, _, _, _, rfl, rfl, by simp⟩
theorem Bi2 (m : Int) : ∃ (t1 t2 : LB) (t3 t4 t5 t6 t7 : Int) (t8 : LI) (t9 : Int) (t10 : LB) (t11 : Bool) (t12 : Int) (s : LB) (e : Int), Aff o p f c w r n g a x u v m = some (t1, t2, t3, t4, t5, t6, t7, t8, t9, t10, t11, t12, s, e) ∧
  So o p f c w r n g a x u v m = some (t1, t2, t3, t4, t5, t6, t7, t8, t9, t10, t11, t12, s, e) ∧ t8.length ≤ 2000 := by
 obtain ⟨E, e1, e2⟩ := Bab o p f c w r n g a x u v (by omega) (by omega) (by omega)
 rw [Aff, e1, So, e2, Aa, Aa]
 by_cases h : E ≠ 0
 ·rw [if_pos (by rw [Aj]; simpa using h), if_pos (by rw [Aj]; simpa using h)]
  exact ⟨_, _, _, _, _, _, _, _, _, _, _, _, _, _, rfl, rfl, by simp⟩
 have hE : ¬ (Bn E 0 = true) := by rw [Aj]; simpa using h
 rw [if_neg hE, if_neg hE]
 by_cases hm : Ci m 0 = true
 ·rw [if_pos hm, if_pos hm]
  exact ⟨_, _, _, _, _, _, _, _, _, _, _, _, _, _, rfl, rfl, by simp⟩
 have hm0 : 0 ≤ m := by rw [Ae] at hm; simpa using hm
 rw [if_neg hm, if_neg hm, Ap0 (by omega) hg (by omega), Ba3 (by omega) hg (by omega), Aa, Aa]
 simp only
 have hk : Fv m (Ac x) = ((min m.toNat x.length : Nat) : Int) := by rw [Ajz, Ac]; omega
 rw [hk, Dc (by omega) (by omega), Aa, Aa, Hc, Cc (by simp; omega), Aa, Aa, Cp (by omega) (by omega), Aa, Aa]
 exact ⟨_, _, _, _, _, _, _, _, _, _, _, _, _, _, rfl, rfl, hg⟩
end
theorem Bmz (l : LI) (h : l.length ≤ 2000) : Ms l l = some true := by
 have key : ∀ (j i q : Nat), i + j = l.length → j < q → Ds l l q (i : Int) = some true := by
  intro j
  induction j with
  | zero =>
   intro i q hi hq
   obtain ⟨q, rfl⟩ : ∃ k, q = k + 1 := ⟨q - 1, by omega⟩
   rw [Ds, Jl, if_neg (by rw [Ae, Ac]; simp; omega)]; rfl
  | succ j ih =>
   intro i q hi hq
   obtain ⟨q, rfl⟩ : ∃ k, q = k + 1 := ⟨q - 1, by omega⟩
   have hlt : i < l.length := by omega
   rw [Ds, Jl, if_pos (by rw [Ae, Ac]; simp; omega), Cl hlt, Aa, Aa, if_neg (by rw [Aj]; simp), Ah (by omega) (by omega)]
   exact ih (i + 1) q (by omega) (by omega)
 rw [Ms, Pq, if_neg (by rw [Aj]; simp)]
 exact key l.length 0 Ay (by omega) (by have := Aq; omega)
theorem Ara (t1 t2 : LB) (t3 t4 t5 t6 t7 : Int) (t8 : LI) (t9 : Int) (t10 : LB) (t11 : Bool) (t12 : Int) (h : t8.length ≤ 2000) : Cs t1 t2 t3 t4 t5 t6 t7 t8 t9 t10 t11 t12 t1 t2 t3 t4 t5 t6 t7 t8 t9 t10 t11 t12 = some true := by
 rw [Cs, if_pos (by simp [Az]), Bmz t8 h, Aa]
 simp [Az]
theorem law_PushdecSteps (a b : LB) (f g h k m : Int) (n : LI) (o : Int) (p : LB) (u : Bool) (v : Int) (w : LB) (al : Int) : Nj a b f g h k m n o p u v w al = some true := by
 rw [Nj, Km]
 obtain ⟨B, h1, h2⟩ := Bnz a b f g h k m n o p u v
 rw [h1, Aa]
 cases B with
 | true => rfl
 | false =>
  obtain ⟨k1, k2, k3⟩ := h2 rfl
  rw [if_neg (by decide)]
  obtain ⟨B, h3, h4⟩ := Brk w
  rw [h3, Aa]
  cases B with
  | true => rfl
  | false =>
   have h5 := h4 rfl
   rw [if_neg (by decide), Ko, Ue, Ap0 (by omega) (by omega) (by omega), Aa]
   simp only
   obtain ⟨t1, t2, t3, t4, t5, t6, t7, t8, t9, t10, t11, t12, e, d1, d2, d3⟩ := Bly (o := a) (p := b) (f := f) (c := g) (w := h) (r := k) (n := m) (g := n) (a := o) (x := p) (u := u) (v := v) (by omega) (by omega) (by omega) w (by omega)
   rw [d1, d2, Aa, Aa]
   simp only
   clear d1 d2
   obtain ⟨s1, s2, s3, s4, s5, s6, s7, s8, s9, s10, s11, s12, e', d1, d2, d4⟩ := Beq (o := a) (p := b) (f := f) (c := g) (w := h) (r := k) (n := m) (g := n) (a := o) (x := p) (u := u) (v := v) (by omega) (by omega) (by omega)
   rw [d1, d2, Aa, Aa]
   simp only
   clear d1 d2
   obtain ⟨r1, r2, r3, r4, r5, r6, r7, r8, r9, r10, r11, r12, r13, e'', d1, d2, d5⟩ := Bi2 (o := a) (p := b) (f := f) (c := g) (w := h) (r := k) (n := m) (g := n) (a := o) (x := p) (u := u) (v := v) (by omega) (by omega) (by omega) al
   rw [d1, d2, Aa, Aa]
   simp only
   rw [Ara _ _ _ _ _ _ _ _ _ _ _ _ d3, Aa, if_pos (by rw [Az]; simp), Ara _ _ _ _ _ _ _ _ _ _ _ _ d4, Aa, if_pos (by rw [Az]; simp), Ara _ _ _ _ _ _ _ _ _ _ _ _ d5, Aa, if_pos (by rw [Az]; simp), Ara _ _ _ _ _ _ _ _ _ _ _ _ (by omega), Aa]
end Go.Pl
