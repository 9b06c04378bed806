/- A part of the proof of a statement of this seat (see the text that ends in Proof): LwSeek, LwOpen, LwFrame, LwBack, LwGot, LwWs, LwGoes, LwPol. No conditions of its own. -/
import Derived.Test.YthchpoekjnapnaaGreatDoorPbWA
set_option linter.unusedVariables false
set_option linter.unusedSimpArgs false
namespace Go.Pl
open Go Go.Lv
def okL : List Int → Int → Bool
 | [], _ => true
 | x :: l, left => decide (5 ≤ x ∧ x ≤ left) && okL l (left - x)
theorem Bjd : ∀ l : List Int, (∀ x ∈ l, 5 ≤ x) → 0 ≤ l.sum
 | [], _ => by simp
 | x :: l, h => by
  have h1 := h x List.mem_cons_self
  have h2 := Bjd l fun y hy => h y (List.mem_cons_of_mem _ hy)
  rw [List.sum_cons]; omega
theorem Ass : ∀ (l : List Int) (left : Int), 0 ≤ left → (okL l left = true ↔ (∀ x ∈ l, 5 ≤ x) ∧ l.sum ≤ left)
 | [], left, h => by simp [okL]; exact h
 | x :: l, left, h => by
  rw [okL, Bool.and_eq_true, decide_eq_true_eq, List.sum_cons]
  by_cases hx : 5 ≤ x ∧ x ≤ left
  ·rw [Ass l (left - x) (by omega)]
   constructor
   ·rintro ⟨_, h1, h2⟩
    exact ⟨fun y hy => (List.mem_cons.1 hy).elim (fun e => e ▸ hx.1) (h1 y), by omega⟩
   ·rintro ⟨h1, h2⟩
    exact ⟨hx, fun y hy => h1 y (List.mem_cons_of_mem _ hy), by omega⟩
  ·constructor
   ·rintro ⟨h1, _⟩; exact absurd h1 hx
   ·rintro ⟨h1, h2⟩
    have h3 := h1 x List.mem_cons_self
    have : 0 ≤ l.sum := Bjd l fun y hy => h1 y (List.mem_cons_of_mem _ hy)
    omega
theorem Aum (l : List Int) (hl : l.length ≤ 1000) (hx : ∀ x ∈ l, 0 ≤ x ∧ x < 4294967296) : ∀ (j i q : Nat) (left : Int), i + j = l.length → j < q → 0 ≤ left → left ≤ 100000 → Pf l q left (i : Int) = some (if okL (l.drop i) left = true then 0 else 8)
 | 0, i, q + 1, left, hi, _, _, _ => by
  rw [Pf, Aal, if_neg (by rw [Af, Ac]; simp; omega), show i = l.length by omega, List.drop_length]; rfl
 | j + 1, i, q + 1, left, hi, hq, h0, h1 => by
  have hlt : i < l.length := by omega
  have hb := hx l[i] (List.getElem_mem hlt)
  rw [Pf, Aal, if_pos (by rw [Af, Ac]; simp; omega), Df hlt, Aa, drop_cons hlt]
  by_cases h : 5 ≤ l[i] ∧ l[i] ≤ left
  ·rw [if_neg (by simp [Af, Bc]; omega), Bl (by omega) (by omega), Ag (by omega) (by omega)]
   have ih := Aum l hl hx j (i + 1) q (left - l[i]) (by omega) (by omega) (by omega) (by omega)
   rw [show ((i : Int) + 1) = ((i + 1 : Nat) : Int) by omega, ih]
   simp [okL, h]
  ·rw [if_pos (by simp [Af, Bc]; omega)]
   have : okL (l[i] :: l.drop (i + 1)) left = false := by rw [okL, decide_eq_false h]; rfl
   rw [this]; rfl
def Aty (l : List Int) : Bool := decide (1 ≤ l.length ∧ l.length ≤ 1000) && okL l 100000
theorem Avj (l : List Int) (hl : l.length ≤ 1000) (hx : ∀ x ∈ l, 0 ≤ x ∧ x < 4294967296) : Acu l = some (if Aty l = true then 0 else 8) := by
 rw [Acu, Afi, Aty]
 by_cases h : 1 ≤ l.length
 ·rw [if_neg (by rw [Ca, Bc, Ac]; simp; constructor; (intro e; subst e; simp at h); omega), Agh]
  have := Aum l hl hx l.length 0 Ba 100000 (by omega) (by have := Aq; omega) (by omega) (by omega)
  rw [List.drop_zero] at this
  rw [decide_eq_true (show 1 ≤ l.length ∧ l.length ≤ 1000 from ⟨h, hl⟩), Bool.true_and]
  exact this
 ·have : l = [] := by
   cases l with
   | nil => rfl
   | cons _ _ => simp at h
  subst this; rfl
theorem Aw0 (l : List Int) (hl : l.length ≤ 1000) (hx : ∀ x ∈ l, 0 ≤ x ∧ x < 4294967296) : ∀ (j i q : Nat) (s : Int), i + j = l.length → j < q → 0 ≤ s → s ≤ 100000 * (i : Int) → Fq l q s (i : Int) = some (if (∀ x ∈ l.drop i, 5 ≤ x ∧ x ≤ 100000) ∧ s + (l.drop i).sum ≤ 100000 then 0 else 8)
 | 0, i, q + 1, s, hi, _, _, _ => by
  rw [Fq, Kz, if_neg (by rw [Af, Ac]; simp; omega), show i = l.length by omega, List.drop_length, Pp, Aac]
  by_cases h : s ≤ 100000
  ·rw [if_neg (by rw [Bc]; simp; omega), if_pos (by simp; omega)]
  ·rw [if_pos (by rw [Bc]; simp; omega), if_neg (by simp; omega)]
 | j + 1, i, q + 1, s, hi, hq, h0, h1 => by
  have hlt : i < l.length := by omega
  have hb := hx l[i] (List.getElem_mem hlt)
  rw [Fq, Kz, if_pos (by rw [Af, Ac]; simp; omega), Df hlt, Aa, drop_cons hlt]
  by_cases h5 : l[i] < 5
  ·rw [if_pos (by rw [Af]; simpa using h5), if_neg (fun h => by have := (h.1 l[i] List.mem_cons_self).1; omega)]
  ·rw [if_neg (by rw [Af]; simpa using h5), Aa]
   by_cases h6 : 100000 < l[i]
   ·rw [if_pos (by rw [Bc]; simpa using h6), if_neg (fun h => by have := (h.1 l[i] List.mem_cons_self).2; omega)]
   ·rw [if_neg (by rw [Bc]; simpa using h6), Sn, Aa5, Df hlt, Aa, Ag (by omega) (by omega), Ag (by omega) (by omega)]
    have ih := Aw0 l hl hx j (i + 1) q (s + l[i]) (by omega) (by omega) (by omega) (by omega)
    rw [show ((i : Int) + 1) = ((i + 1 : Nat) : Int) by omega, ih]
    have e : ((∀ x ∈ l.drop (i + 1), 5 ≤ x ∧ x ≤ 100000) ∧ s + l[i] + (l.drop (i + 1)).sum ≤ 100000) ↔ ((∀ x ∈ l[i] :: l.drop (i + 1), 5 ≤ x ∧ x ≤ 100000) ∧ s + (l[i] :: l.drop (i + 1)).sum ≤ 100000) := by
     rw [List.sum_cons, List.forall_mem_cons, Int.add_assoc]
     constructor
     ·rintro ⟨a, b⟩; exact ⟨⟨by omega, a⟩, b⟩
     ·rintro ⟨⟨_, a⟩, b⟩; exact ⟨a, b⟩
    simp only [e]
theorem Be6 : ∀ {l : List Int}, (∀ x ∈ l, 5 ≤ x) → ∀ x ∈ l, x ≤ l.sum
 | [], _, x, hx => by simp at hx
 | y :: l, h, x, hx => by
  have h1 := h y List.mem_cons_self
  have h2 := Bjd l fun z hz => h z (List.mem_cons_of_mem _ hz)
  rw [List.sum_cons]
  rcases List.mem_cons.1 hx with rfl | hx
  ·omega
  ·have := Be6 (l := l) (fun z hz => h z (List.mem_cons_of_mem _ hz)) x hx
   omega
theorem Bim (l : List Int) (hl : l.length ≤ 1000) (hx : ∀ x ∈ l, 0 ≤ x ∧ x < 4294967296) : Qv l = some (if Aty l = true then 0 else 8) := by
 rw [Qv, Rz, Aty]
 by_cases h : 1 ≤ l.length
 ·have := Aw0 l hl hx l.length 0 Ba 0 (by omega) (by have := Aq; omega) (by omega) (by omega)
  rw [if_neg (by rw [Af, Bc, Ac]; simp; omega), Rt]
  refine Eq.trans this ?_
  rw [List.drop_zero, decide_eq_true (show 1 ≤ l.length ∧ l.length ≤ 1000 from ⟨h, hl⟩), Bool.true_and]
  have e : ((∀ x ∈ l, 5 ≤ x ∧ x ≤ 100000) ∧ 0 + l.sum ≤ 100000) ↔ okL l 100000 = true := by
   rw [Ass l 100000 (by omega), Int.zero_add]
   constructor
   ·rintro ⟨a, b⟩; exact ⟨fun x hx => (a x hx).1, b⟩
   ·rintro ⟨a, b⟩; exact ⟨fun x hx => ⟨a x hx, Int.le_trans (Be6 a x hx) b⟩, b⟩
  simp only [e]
 ·have : l = [] := by
   cases l with
   | nil => rfl
   | cons _ _ => simp at h
  subst this; rfl
def Ah4 (b : List UInt8) (n : Nat) : List Int := (List.range n).map fun i => (Eg (part b (4 * i) 4) : Int)
theorem Ac7 (b : List UInt8) (n : Nat) : (Ah4 b n).length = n := by simp [Ah4]
theorem Axz (b : List UInt8) (n : Nat) : Ah4 b (n + 1) = Ah4 b n ++ [(Eg (part b (4 * n) 4) : Int)] := by simp [Ah4, List.range_succ]
theorem Bf2 (b : List UInt8) (n : Nat) (h : 4 * n ≤ b.length) : ∀ x ∈ Ah4 b n, 0 ≤ x ∧ x < 4294967296 := by
 intro x hx
 simp only [Ah4, List.mem_map, List.mem_range] at hx
 obtain ⟨i, hi, rfl⟩ := hx
 have := Bgv (l := part b (4 * i) 4) (by rw [Dd (by omega)]; omega)
 omega
def Nj (b : List UInt8) (n : Nat) : List Int × Int :=
 if ¬ (1 ≤ n ∧ n ≤ 1000) then ([], 2) else if b.length < 4 * n + 4 then ([], 24) else if (Gs (b.take (4 * n))).toNat ≠ Eg (part b (4 * n) 4) then ([], 22) else
 if Aty (Ah4 b n) = true then (Ah4 b n, 0) else ([], 12)
theorem Bf0 {b : List UInt8} {n : Nat} (h : 1 ≤ n ∧ n ≤ 1000) (h2 : ¬ b.length < 4 * n + 4) : Cu (Ad (Gs (b.take (4 * n))) : UInt64) (leU (part b (4 * n) 4)) = decide ((Gs (b.take (4 * n))).toNat ≠ Eg (part b (4 * n) 4)) := by
 rw [Aer, Gy, Bool.eq_iff_iff]
 simp only [bne_iff_ne, ne_eq, decide_eq_true_eq]
 rw [← UInt64.toNat_inj, Agv (by have := (Gs (b.take (4 * n))).toNat_lt; omega), Ag7 (by rw [Dd (by omega)]; omega)]
section
variable {b : List UInt8} {n : Nat}
theorem ss1 (h : ¬ (1 ≤ n ∧ n ≤ 1000)) : Nj b n = ([], 2) := by rw [Nj, if_pos h]
variable (h : 1 ≤ n ∧ n ≤ 1000)
include h
theorem ss2 (h2 : b.length < 4 * n + 4) : Nj b n = ([], 24) := by rw [Nj, if_neg (fun e => e h), if_pos h2]
variable (h2 : ¬ b.length < 4 * n + 4)
include h2
theorem ss3 (h3 : (Gs (b.take (4 * n))).toNat ≠ Eg (part b (4 * n) 4)) : Nj b n = ([], 22) := by rw [Nj, if_neg (fun e => e h), if_neg h2, if_pos h3]
theorem ss4 (h3 : (Gs (b.take (4 * n))).toNat = Eg (part b (4 * n) 4)) : Nj b n = if Aty (Ah4 b n) = true then (Ah4 b n, 0) else ([], 12) := by rw [Nj, if_neg (fun e => e h), if_neg h2, if_neg (fun e => e h3)]
end
theorem Axq (b : List UInt8) (l8 : List Int) (n : Nat) (hn : n ≤ 1000) (h8 : l8.length = n) (hb : 4 * n + 4 ≤ b.length) (hb2 : b.length < 4611686018427387904) : ∀ (j i q : Nat), i + j = n → j < q → Re b l8 q (i : Int) (Ah4 b i ++ List.replicate j 0) = Acg (Ah4 b n)
 | 0, i, q + 1, hi, _ => by
  obtain rfl : i = n := by omega
  rw [Re, Acd, if_neg (by rw [Af, Ac]; simp; omega)]; simp
 | j + 1, i, q + 1, hi, hq => by
  have hlen : (Ah4 b i ++ List.replicate (j + 1) 0).length = i + (j + 1) := by simp [Ac7]
  have ha := Ayk b (4 * i) 4 (by omega) (by omega) (by omega) hb2
  rw [Re, Acd, if_pos (by rw [Af, Ac]; simp; omega), Hc (by omega) (by omega), show (4 : Int) * (i : Int) = ((4 * i : Nat) : Int) by omega, show (4 : Int) = ((4 : Nat) : Int) from rfl, ha, Aa]
  simp only
  rw [Df (by rw [hlen]; omega), Aa, Vp _ (by rw [hlen]; omega), Aa, Acl (by rw [Dd (by omega)]; omega), Ag (by omega) (by omega), List.replicate_succ, Am3 (Ac7 _ _)]
  have ih := Axq b l8 n hn h8 hb hb2 j (i + 1) q (by omega) (by omega)
  rw [Axz] at ih
  rw [show ((i : Int) + 1) = ((i + 1 : Nat) : Int) by omega, ← ih]
  simp
theorem Bh4 (b : List UInt8) (n : Nat) (hb : b.length ≤ 100100) : Aj3 b (n : Int) = some (Nj b n) := by
 rw [Aj3, Ahy]
 by_cases h : 1 ≤ n ∧ n ≤ 1000
 ·rw [if_neg (by simp [Af, Bc]; omega), Hc (by omega) (by omega), Ag (by omega) (by omega)]
  by_cases h2 : b.length < 4 * n + 4
  ·rw [if_pos (by rw [Af, Ac]; simp; omega), ss2 h h2]
  ·have ha : Aif b (4 * (n : Int)) 4 = some (leU (part b (4 * n) 4), 0) := by
    rw [show (4 : Int) * (n : Int) = ((4 * n : Nat) : Int) by omega]
    exact Ayk b (4 * n) 4 (by omega) (by omega) (by omega) (by omega)
   rw [if_neg (by rw [Af, Ac]; simp; omega), ha, Aa]
   simp only
   rw [Mb (by omega) (by omega), Aa, show (4 * (n : Int)).toNat = 4 * n by omega, Bem _ (by simp; omega), Aa]
   simp only
   rw [Bf0 h h2]
   by_cases h3 : (Gs (b.take (4 * n))).toNat = Eg (part b (4 * n) 4)
   ·have hlp := Axq b (List.replicate n 0) n (by omega) (by simp) (by omega) (by omega) n 0 Ba (by omega) (by have := Aq; omega)
    rw [if_neg (by simpa using h3), Avf (by omega) (by omega), Aa, Bz (by rw [Ca]; simp), Aa, Ahu, Int.toNat_natCast]
    refine Eq.trans (hlp) ?_
    rw [Acg, An4, Avj _ (by rw [Ac7]; omega) (Bf2 b n (by omega)), Aa, ss4 h h2 h3]
    cases Aty (Ah4 b n) <;> rfl
   ·rw [if_pos (by simpa using h3), ss3 h h2 h3]
 ·rw [if_pos (by simp [Af, Bc]; omega), ss1 h]
theorem An5 (b : List UInt8) (n : Nat) (hn : n ≤ 1000) (hb : 4 * n + 4 ≤ b.length) (hb2 : b.length < 4611686018427387904) : ∀ (j i q : Nat), i + j = n → j < q → Gc b (n : Int) q (i : Int) (Ah4 b i) = Mc (Ah4 b n)
 | 0, i, q + 1, hi, _ => by
  obtain rfl : i = n := by omega
  rw [Gc, Mh, if_neg (by rw [Af]; simp)]
 | j + 1, i, q + 1, hi, hq => by
  have hc : Db b ((4 : Int) * (i : Int)) ((4 : Int) * (i : Int) + 4) = some (part b (4 * i) 4) := by
   rw [show (4 : Int) * (i : Int) = ((4 * i : Nat) : Int) by omega]
   exact Mq (4 * i) 4 (by omega)
  rw [Gc, Mh, if_pos (by rw [Af]; simp; omega), Hc (by omega) (by omega), Ag (by omega) (by omega), hc, Aa, Bbs _ (by rw [Dd (by omega)]; omega), Aa, Dp (by rw [Ac7]; simp; omega), Aa,
   Acl (by rw [Dd (by omega)]; omega), Ag (by omega) (by omega), ← Axz]
  exact An5 b n hn hb hb2 j (i + 1) q (by omega) (by omega)
theorem Bjt (b : List UInt8) (n : Nat) (hb : b.length ≤ 100100) : Te b (n : Int) = some (Nj b n) := by
 rw [Te, Tx]
 by_cases h : 1 ≤ n ∧ n ≤ 1000
 ·rw [if_neg (by simp [Af, Bc]; omega), Hc (by omega) (by omega), Ag (by omega) (by omega)]
  by_cases h2 : b.length < 4 * n + 4
  ·rw [if_pos (by rw [Af, Ac]; simp; omega), ss2 h h2]
  ·have hc : Db b ((4 : Int) * (n : Int)) ((4 : Int) * (n : Int) + 4) = some (part b (4 * n) 4) := by
    rw [show (4 : Int) * (n : Int) = ((4 * n : Nat) : Int) by omega]
    exact Mq (4 * n) 4 (by omega)
   have hs : Cu (leU (part b (4 * n) 4)) (Ad (Gs (b.take (4 * n))) : UInt64) = decide ((Gs (b.take (4 * n))).toNat ≠ Eg (part b (4 * n) 4)) := by
    rw [← Bf0 h h2, Aer, Aer, Bool.eq_iff_iff]; simp only [bne_iff_ne, ne_eq]; exact not_congr eq_comm
   rw [if_neg (by rw [Af, Ac]; simp; omega), hc, Aa, Mb (by omega) (by omega), Aa, show (4 * (n : Int)).toNat = 4 * n by omega, Bbs _ (by rw [Dd (by omega)]; omega), Aa, Bjy _ (by simp; omega), Aa, hs]
   by_cases h3 : (Gs (b.take (4 * n))).toNat = Eg (part b (4 * n) 4)
   ·have hlp := An5 b n (by omega) (by omega) (by omega) n 0 Ba (by omega) (by have := Aq; omega)
    rw [if_neg (by simpa using h3), Uk, Uf, Uq]
    refine Eq.trans hlp ?_
    rw [Mc, Acy, Bim _ (by rw [Ac7]; omega) (Bf2 b n (by omega)), Aa, ss4 h h2 h3]
    cases Aty (Ah4 b n) <;> rfl
   ·rw [if_pos (by simpa using h3), ss3 h h2 h3]
 ·rw [if_pos (by simp [Af, Bc]; omega), ss1 h]
theorem Awg {b : List UInt8} {n : Nat} (h : (Nj b n).2 = 0) : Nj b n = (Ah4 b n, 0) ∧ 1 ≤ n ∧ n ≤ 1000 ∧ 4 * n + 4 ≤ b.length ∧ (∀ x ∈ Ah4 b n, 5 ≤ x) ∧ (Ah4 b n).sum ≤ 100000 := by
 unfold Nj at h ⊢
 split at h; · simp at h
 rename_i c1; rw [if_neg c1]
 split at h; · simp at h
 rename_i c2; rw [if_neg c2]
 split at h; · simp at h
 rename_i c3; rw [if_neg c3]
 split at h
 ·rename_i c4
  rw [if_pos c4]
  have c4' := c4
  rw [Aty, Bool.and_eq_true, Ass _ _ (by omega)] at c4'
  exact ⟨rfl, by omega, by omega, by omega, c4'.2.1, c4'.2.2⟩
 ·simp at h
end Go.Pl
set_option linter.unusedVariables false
set_option linter.unusedSimpArgs false
namespace Go.Pl
open Go Go.Lv
def hdr (b : List UInt8) : List UInt8 := b.drop (frontS b).1.toNat
abbrev Op8 := Int × Int × Int × Int × Int × Int × (List Int) × Int
def Asp (e : Int) : Op8 := (0, 0, 0, 0, 0, 0, [], e)
theorem Blz (A K : Nat) (h : A ≤ 200000) (hk : K ≤ 1000) : Ae (Ae (A : Int) (Bi 4 (K : Int))) 4 = ((A + 4 * K + 4 : Nat) : Int) := by
 rw [Hc (by omega) (by omega), Ag (a := (A : Int)) (by omega) (by omega), Ag (by omega) (by omega)]; omega
theorem Bha {f c w r n : Nat} (h1 : shapeB f c w r n = true) (h2 : fitB c r n = true) (b : List UInt8) (hb : b.length ≤ 100100) (A : Nat) (hA : A ≤ b.length) :
  Um b (f : Int) (c : Int) (w : Int) (r : Int) (n : Int) (A : Int) =
   some (if (Nj (b.drop A) (framesL (longN r) n).length).2 ≠ 0 then Asp (Nj (b.drop A) (framesL (longN r) n).length).2 else ((f : Int), (c : Int), (w : Int), (r : Int), (n : Int), ((A + 4 * (framesL (longN r) n).length + 4 : Nat) : Int), (Nj (b.drop A) (framesL (longN r) n).length).1, 0)) := by
 rw [Um, Ald, Alj h1 h2, Aa]
 simp only
 rw [if_neg (by rw [Am]; simp), Abo (by omega) (by omega), Aa, Ac, show (A : Int).toNat = A from rfl, Bh4 _ _ (by simp; omega), Aa]
 by_cases h : (Nj (b.drop A) (framesL (longN r) n).length).2 ≠ 0
 ·rw [if_pos h, if_pos (by rw [Am]; simpa using h)]; rfl
 ·have h0 : (Nj (b.drop A) (framesL (longN r) n).length).2 = 0 := by simpa using h
  obtain ⟨g1, g2, g3, g4, g5, g6⟩ := Awg h0
  have gl : (Nj (b.drop A) (framesL (longN r) n).length).1.length = (framesL (longN r) n).length := by rw [g1]; exact Ac7 _ _
  rw [if_neg h, if_neg (by rw [Am]; simpa using h), Ac, gl, Blz _ _ (by omega) (by omega)]
theorem Blu {f c w r n : Nat} (h1 : shapeB f c w r n = true) (h2 : fitB c r n = true) (b : List UInt8) (hb : b.length ≤ 100100) (A : Nat) (hA : A ≤ b.length) :
  Gp b (f : Int) (c : Int) (w : Int) (r : Int) (n : Int) (A : Int) =
   some (if (Nj (b.drop A) (framesL (longN r) n).length).2 ≠ 0 then Asp (Nj (b.drop A) (framesL (longN r) n).length).2 else ((f : Int), (c : Int), (w : Int), (r : Int), (n : Int), ((A + 4 * (framesL (longN r) n).length + 4 : Nat) : Int), (Nj (b.drop A) (framesL (longN r) n).length).1, 0)) := by
 have hs : (1 ≤ r ∧ r ≤ 1048576) ∧ 1 ≤ n ∧ 1 ≤ c := by
  simp only [shapeB, decide_eq_true_eq] at h1; omega
 have hf : n ≤ 4000 := by
  simp only [fitB, decide_eq_true_eq] at h2
  have := Nat.div_le_self 4000 c
  omega
 rw [Gp, Qr, Abo (by omega) (by omega), Aa, Apq hs.1.2 hs.2.1 hf, Aa, Ac, show (A : Int).toNat = A from rfl, Bjt _ _ (by simp; omega), Aa]
 simp only
 rw [Qt, Aaa]
 by_cases h : (Nj (b.drop A) (framesL (longN r) n).length).2 ≠ 0
 ·rw [if_pos h, if_pos (by rw [Am]; simpa using h)]; rfl
 ·have h0 : (Nj (b.drop A) (framesL (longN r) n).length).2 = 0 := by simpa using h
  obtain ⟨g1, g2, g3, g4, g5, g6⟩ := Awg h0
  have gl : (Nj (b.drop A) (framesL (longN r) n).length).1.length = (framesL (longN r) n).length := by rw [g1]; exact Ac7 _ _
  rw [if_neg h, if_neg (by rw [Am]; simpa using h), Ac, gl, Blz _ _ (by omega) (by omega)]
structure Opn (b p : List UInt8) (f c w r n A : Nat) (l : List Int) : Prop where
 prog : seekto_Open b p = some ((f : Int), (c : Int), (w : Int), (r : Int), (n : Int), (A : Int), l, 0)
 ref : cadenzaref40_Opened b p = some ((f : Int), (c : Int), (w : Int), (r : Int), (n : Int), (A : Int), l, 0)
 pass : p.length ≤ 64
 file : b.length ≤ 100000
 shape : shapeB f c w r n = true
 fit : fitB c r n = true
 len : l.length = (framesL (longN r) n).length
 some1 : 1 ≤ l.length ∧ l.length ≤ 1000
 five : ∀ x ∈ l, 5 ≤ x
 sum : l.sum ≤ 100000
 at' : A ≤ b.length
 tag : (frontS b).2 = 0
 pos : A = (frontS b).1.toNat + 22 + (if f = 2 then 8 else 0) + 4 * l.length + 4
theorem Boy (b p : List UInt8) (hb : b.length ≤ 100100) (hp : p.length ≤ 64) :
  (∃ e : Int, e ≠ 0 ∧ seekto_Open b p = some (Asp e) ∧ cadenzaref40_Opened b p = some (Asp e)) ∨ (∃ f c w r n A l, Opn b p f c w r n A l) := by
 by_cases h1 : 100000 < b.length
 ·refine .inl ⟨4, by omega, ?_, ?_⟩
  ·rw [seekto_Open, Us, if_neg (by rw [Bc, Ac]; simp; omega), if_pos (by rw [Bc, Ac]; simp; omega)]; rfl
  ·rw [cadenzaref40_Opened, Jn, if_pos (by rw [Bc, Ac]; simp; omega)]; rfl
 have hP : seekto_Open b p = seekto_Open b p := rfl
 have hR : cadenzaref40_Opened b p = cadenzaref40_Opened b p := rfl
 conv at hP => rhs; rw [seekto_Open, Us, if_neg (by rw [Bc, Ac]; simp; omega), if_neg (by rw [Bc, Ac]; simp; omega), Auo b (by omega), Aa]
 conv at hR => rhs; rw [cadenzaref40_Opened, Jn, if_neg (by rw [Bc, Ac]; simp; omega), Baa b (by omega), Aa]
 by_cases h2 : (frontS b).2 = 0
 ·obtain ⟨p0, p1, p2⟩ := Bhg h2
  have hc := Abo (l := b) p0 p1
  simp only [h2] at hP hR
  rw [if_neg (by rw [Am]; simp), hc, Aa, show b.drop (frontS b).1.toNat = hdr b from rfl, Bib _ (by simp [hdr]; omega), Aa] at hP
  rw [if_neg (by rw [Am]; simp), hc, Aa, show b.drop (frontS b).1.toNat = hdr b from rfl, Bj4 _ (by simp [hdr]; omega), Aa] at hR
  by_cases h3 : (Aak (hdr b)).2.2.2.2.2 = 0
  ·obtain ⟨g1, g2, g3, g4⟩ := Bll h3
   have hlen : (hdr b).length = b.length - (frontS b).1.toNat := by simp [hdr]
   generalize hF : (frontS b).1.toNat = F at *
   have hF' : (frontS b).1 = (F : Int) := by omega
   rw [g1, hF'] at hP hR
   simp only at hP hR
   generalize f0 (hdr b) = f at *
   generalize f1 (hdr b) = c at *
   generalize f2 (hdr b) = w at *
   generalize f3 (hdr b) = r at *
   generalize f4 (hdr b) = n at *
   have t22 : Ae (F : Int) 22 = ((F + 22 : Nat) : Int) := by rw [Ag (by omega) (by omega)]; omega
   have t30 : Ae ((F + 22 : Nat) : Int) 8 = ((F + 30 : Nat) : Int) := by rw [Ag (by omega) (by omega)]; omega
   have hf12 : f = 1 ∨ f = 2 := by simp only [shapeB, decide_eq_true_eq] at g3; omega
   rw [if_neg (by rw [Am]; simp), t22, t30] at hP hR
   have hend : ∀ A : Nat, A ≤ b.length → A = F + 22 + (if f = 2 then 8 else 0) → seekto_Open b p = Um b (f : Int) (c : Int) (w : Int) (r : Int) (n : Int) (A : Int) → cadenzaref40_Opened b p = Gp b (f : Int) (c : Int) (w : Int) (r : Int) (n : Int) (A : Int) →
     (∃ e : Int, e ≠ 0 ∧ seekto_Open b p = some (Asp e) ∧ cadenzaref40_Opened b p = some (Asp e)) ∨ (∃ f c w r n A l, Opn b p f c w r n A l) := by
    intro A hA hA2 e1 e2
    rw [Bha g3 g4 b hb A hA] at e1
    rw [Blu g3 g4 b hb A hA] at e2
    by_cases h : (Nj (b.drop A) (framesL (longN r) n).length).2 ≠ 0
    ·rw [if_pos h] at e1 e2
     exact .inl ⟨_, h, e1, e2⟩
    ·have h0 : (Nj (b.drop A) (framesL (longN r) n).length).2 = 0 := by simpa using h
     obtain ⟨k1, k2, k3, k4, k5, k6⟩ := Awg h0
     have gl : (Nj (b.drop A) (framesL (longN r) n).length).1.length = (framesL (longN r) n).length := by rw [k1]; exact Ac7 _ _
     rw [if_neg h] at e1 e2
     rw [List.length_drop] at k4
     refine .inr ⟨f, c, w, r, n, _, _, ⟨e1, e2, hp, by omega, g3, g4, gl, by omega, by rw [k1]; exact k5, by rw [k1]; exact k6, by omega, h2, by rw [gl, hF, ← hA2]⟩⟩
   by_cases hpass : ((p == ([] : List UInt8)) != (geq (f : Int) (1 : Int))) = true
   ·rw [if_pos hpass] at hP hR
    exact .inl ⟨26, by omega, hP, hR⟩
   ·rw [if_neg hpass] at hP hR
    have hpf : (p = [] ↔ f = 1) := by
     rw [Ca] at hpass
     have h5 : (p == ([] : List UInt8)) = ((f : Int) == 1) := by simpa using hpass
     have h6 : (p == ([] : List UInt8)) = true ↔ ((f : Int) == 1) = true := by rw [h5]
     rw [beq_iff_eq, beq_iff_eq] at h6
     rw [h6]; omega
    by_cases h5 : f = 2
    ·have hpne : p ≠ [] := fun e => by have := hpf.1 e; omega
     have h64 : (p != ([] : List UInt8)) = true := by simpa using hpne
     rw [if_pos h64] at hP
     rw [if_pos (by rw [Ca, h5]; rfl), Bl (by rw [Ac]; omega) (by rw [Ac]; omega)] at hR
     by_cases h6 : b.length < F + 30
     ·rw [if_pos (by rw [Af, Ac]; simp; omega)] at hP hR
      exact .inl ⟨24, by omega, hP, hR⟩
     ·have hseg : ((b.take (F + 30)).drop (F + 22)).length = 8 := by simp; omega
      rw [if_neg (by rw [Af, Ac]; simp; omega), Ady (by omega) (by omega) (by omega), Aa] at hP hR
      rw [Ajx, Bil p hp, Aa] at hP
      rw [Bhk p hp, Aa] at hR
      simp only at hP
      rw [if_neg (by rw [Am, Am, Ac, Ac, Nt, show ((F + 30 : Nat) : Int).toNat = F + 30 from rfl, show ((F + 22 : Nat) : Int).toNat = F + 22 from rfl, hseg]; simp), Jy, Aa, Aa] at hP
      simp only at hP
      rw [if_neg (by rw [Am]; simp)] at hP
      generalize (b.take ((F + 30 : Nat) : Int).toNat).drop ((F + 22 : Nat) : Int).toNat = seg at *
      by_cases h7 : seg = leB (Ae4 p).toNat 8
      ·rw [if_neg (by simp [h7])] at hP
       rw [if_neg (by simp [h7])] at hR
       exact hend (F + 30) (by omega) (by rw [if_pos h5]) hP hR
      ·rw [if_pos (by simpa using h7)] at hP
       rw [if_pos (by simpa using h7)] at hR
       exact .inl ⟨26, by omega, hP, hR⟩
    ·have hpe : p = [] := hpf.2 (by omega)
     rw [if_neg (by rw [hpe]; simp)] at hP
     rw [if_neg (by rw [Ca]; simp; omega)] at hR
     exact hend (F + 22) (by omega) (by rw [if_neg h5]) hP hR
  ·generalize Aak (hdr b) = v at *
   obtain ⟨v1, v2, v3, v4, v5, v6⟩ := v
   simp only at h3 hP hR
   rw [if_pos (by rw [Am]; simpa using h3)] at hP hR
   exact .inl ⟨v6, h3, hP, hR⟩
 ·generalize frontS b = v at *
  obtain ⟨v, e⟩ := v
  simp only at h2 hP hR
  rw [if_pos (by rw [Am]; simpa using h2)] at hP hR
  exact .inl ⟨e, h2, hP, hR⟩
end Go.Pl
set_option linter.unusedVariables false
set_option linter.unusedSimpArgs false
namespace Go.Pl
open Go Go.Lv
theorem Biy (l : List Int) (i : Nat) : (l.take i).sum + (l.drop i).sum = l.sum := by
 conv => rhs; rw [← List.take_append_drop i l, List.sum_append]
theorem Un {l : List Int} (h5 : ∀ x ∈ l, 5 ≤ x) (i : Nat) : 0 ≤ (l.take i).sum ∧ (l.take i).sum ≤ l.sum := by
 have h1 := Bjd (l.take i) fun x hx => h5 x (List.mem_of_mem_take hx)
 have h2 := Bjd (l.drop i) fun x hx => h5 x (List.mem_of_mem_drop hx)
 have := Biy l i
 omega
theorem Ab8 {l : List Int} {i : Nat} (h : i < l.length) : (l.take (i + 1)).sum = (l.take i).sum + l[i] := by
 rw [Aij h, List.sum_append]; simp
def Asq (l : List Int) (n : Nat) : List Int := (List.range n).map fun i => (l.take i).sum
theorem Bam (l : List Int) (n : Nat) : (Asq l n).length = n := by simp [Asq]
theorem Biw (l : List Int) (n : Nat) : Asq l (n + 1) = Asq l n ++ [(l.take n).sum] := by simp [Asq, List.range_succ]
theorem Atl (l : List Int) {n i : Nat} (h : i < n) : getI (Asq l n) (i : Int) = some ((l.take i).sum) := by
 rw [Df (by rw [Bam]; exact h)]; simp [Asq]
section
variable {l : List Int} (hl : l.length ≤ 1000) (h5 : ∀ x ∈ l, 5 ≤ x) (hs : l.sum ≤ 100000)
include hl h5 hs
theorem Axk : ∀ (j i q : Nat), i + j = l.length → j < q → Kb l q (i : Int) ((l.take i).sum) (Asq l (i + 1)) = some (Asq l (l.length + 1), 0)
 | 0, i, q + 1, hi, _ => by
  rw [Kb, Vg, if_neg (by rw [Af, Ac]; simp; omega), show i = l.length by omega]; rfl
 | j + 1, i, q + 1, hi, hq => by
  have hlt : i < l.length := by omega
  have ih := Axk j (i + 1) q (by omega) (by omega)
  have b1 := Un h5 i
  have b2 := Un h5 (i + 1)
  have e := Ab8 hlt
  rw [Biw l (i + 1), e] at ih
  rw [Kb, Vg, if_pos (by rw [Af, Ac]; simp; omega), Df hlt, Aa, Ag (by omega) (by omega), Dp (by simp [Bam]; omega), Aa, Ab2, Aio, Ag (by omega) (by omega), Ag (by omega) (by omega)]
  exact ih
theorem Bna (h1 : 1 ≤ l.length) : Ab9 l = some (Asq l (l.length + 1), 0) := by
 have h := Axk hl h5 hs l.length 0 Ba (by omega) (by have := Aq; omega)
 have hx : ∀ x ∈ l, 0 ≤ x ∧ x < 4294967296 := fun x hx => by
  have := Be6 h5 x hx
  have := h5 x hx
  omega
 have ht : Aty l = true := by
  rw [Aty, Bool.and_eq_true]
  exact ⟨by simpa using ⟨h1, hl⟩, (Ass l 100000 (by omega)).2 ⟨h5, hs⟩⟩
 rw [Ab9, Abi, Avj l hl hx, Aa, if_pos ht, if_neg (by rw [Am]; simp)]
 exact h
theorem At8 (f c w r n A : Int) (hA : 0 ≤ A) (hA2 : A ≤ 200000) (k : Nat) (hk : k ≤ l.length) : ∀ (j i q : Nat), i + j = k → j < q → Fk (k : Int) f c w r n A l q (A + (l.take i).sum) (i : Int) = some (A + (l.take k).sum)
 | 0, i, q + 1, hi, _ => by
  rw [Fk, Kv, if_neg (by rw [Af]; simp; omega), show i = k by omega]; rfl
 | j + 1, i, q + 1, hi, hq => by
  have hlt : i < l.length := by omega
  have ih := At8 f c w r n A hA hA2 k hk j (i + 1) q (by omega) (by omega)
  have b1 := Un h5 i
  have b2 := Un h5 (i + 1)
  have e := Ab8 hlt
  rw [e, ← Int.add_assoc] at ih
  rw [Fk, Kv, if_pos (by rw [Af]; simp; omega), Df hlt, Aa, Ag (by omega) (by omega), Ag (by omega) (by omega)]
  exact ih
theorem Aw1 (f c w r n A : Int) (hA : 0 ≤ A) (hA2 : A ≤ 200000) (k : Nat) (hk : k ≤ l.length) : Qm f c w r n A l (k : Int) = some (A + (l.take k).sum) := by
 have h := At8 hl h5 hs f c w r n A hA hA2 k hk k 0 Ba (by omega) (by have := Aq; omega)
 rw [List.take_zero, List.sum_nil, Int.add_zero] at h
 exact h
end
theorem Aub {g n : Nat} (hg : 1 ≤ g) (hn : 1 ≤ n) {x : Int} (h : x ∈ framesL g n) : ∃ m : Nat, x = m ∧ 1 ≤ m ∧ m ≤ n := by
 have hmul := Nat.div_mul_le_self (n - 1) g
 rw [framesL, List.mem_append] at h
 rcases h with h | h
 ·rw [List.mem_replicate] at h
  have h1 : 1 ≤ (n - 1) / g := Nat.pos_of_ne_zero h.1
  have := Nat.mul_le_mul_right g h1
  exact ⟨g, h.2, hg, by omega⟩
 ·rw [List.mem_singleton] at h
  exact ⟨_, h, by omega, by omega⟩
theorem Awj {f c w r n : Nat} (h : shapeB f c w r n = true) : (1 ≤ c ∧ c ≤ 6) ∧ Dv (w : Int) ∧ (1 ≤ r ∧ r ≤ 1048576) ∧ 1 ≤ n ∧ (f = 1 ∨ f = 2) := by
 simp only [shapeB, decide_eq_true_eq] at h
 refine ⟨h.2.1, ?_, h.2.2.2.1, h.2.2.2.2, h.1⟩
 rcases h.2.2.1 with rfl | rfl | rfl
 ·exact .inl rfl
 ·exact .inr (.inl rfl)
 ·exact .inr (.inr rfl)
theorem Bh1 {b p : List UInt8} {f c w r n A : Nat} {l : List Int} (o : Opn b p f c w r n A l) (k : Nat) (hk : k < l.length) :
  ∃ y : List UInt8 × Int, Ra (k : Int) (framesL (longN r) n) (f : Int) (c : Int) (w : Int) (r : Int) (n : Int) (A : Int) b (tapsOf p) l (Asq l (l.length + 1)) = some y ∧
   cadenzaref40_Got b p (f : Int) (c : Int) (w : Int) (r : Int) (n : Int) (A : Int) l (k : Int) = some y := by
 obtain ⟨hc, hw, hr, hn, _⟩ := Awj o.shape
 have hfit : n ≤ 4000 / c := by have := o.fit; simp only [fitB, decide_eq_true_eq] at this; exact this.1
 have hn4 : n ≤ 4000 := by have := Nat.div_le_self 4000 c; omega
 have hA := o.at'
 have hfile := o.file
 have hlen := o.len
 have b1 := Un o.five k
 have b2 := Un o.five (k + 1)
 have e := Ab8 hk
 have h5 := o.five l[k] (List.getElem_mem _)
 have hsum := o.sum
 have hs1 := o.some1
 have hkf : k < (framesL (longN r) n).length := by omega
 obtain ⟨m, hm, m1, m2⟩ := Aub (Aic r) hn (List.getElem_mem hkf)
 have e1 : Ae (k : Int) 1 = ((k + 1 : Nat) : Int) := by rw [Ag (by omega) (by omega)]; omega
 rw [Ra, Ad4, if_neg (by rw [Am]; simp), if_neg (by simp [Af, Dl, Ac]; omega), e1, Atl l (by omega), Atl l (by omega), Aa, Aa, Aa, Aa, Adv, Ad0, Ag (a := (A : Int)) (b := (l.take (k + 1)).sum) (by omega) (by omega), Ag (by omega) (by omega)]
 rw [cadenzaref40_Got, Jh, Aw1 hs1.2 o.five o.sum _ _ _ _ _ (A : Int) (by omega) (by omega) k (by omega), Aa, Df hk, Aa, Bl (by rw [Ac]; omega) (by rw [Ac]; omega)]
 by_cases hto : (b.length : Int) < (A : Int) + (l.take (k + 1)).sum
 ·rw [if_pos (by rw [Bc, Ac, decide_eq_true_eq]; omega), if_pos (by rw [Af, Ac, decide_eq_true_eq]; omega)]
  exact ⟨_, rfl, rfl⟩
 ·rw [if_neg (by rw [Bc, Ac, decide_eq_true_eq]; omega), if_neg (by rw [Af, Ac, decide_eq_true_eq]; omega), Bb1 p o.pass, Apq hr.2 hn hn4]
  simp only [Aa]
  rw [Ag (a := (A : Int) + (l.take k).sum) (b := l[k]) (by omega) (by omega), Int.add_assoc, ← e, Df hkf, hm]
  simp only [Aa]
  rw [Ady (by omega) (by omega) (by omega), Aa, Aa]
  obtain ⟨x, er, g1, g2, g3, _⟩ := Asa (ch := c) (n := m) (t := tapsOf p) ((b.take ((A : Int) + (l.take (k + 1)).sum).toNat).drop ((A : Int) + (l.take k).sum).toNat) hw (Avi p) hc.1 hc.2 m1 (by omega)
  rw [g1, g2, Aa, Aa]
  simp only
  rw [Adw, Ad5, Oc, Vr]
  by_cases her : er = 0
  ·obtain ⟨g4, g5, _⟩ := g3 her
   rw [if_neg (by rw [Am]; simpa using her), if_neg (by rw [Am]; simpa using her), Awi hw g5 g4, Ax5 hw g5 g4, Aa, Aa]
   exact ⟨_, rfl, rfl⟩
  ·rw [if_pos (by rw [Am]; simpa using her), if_pos (by rw [Am]; simpa using her)]
   exact ⟨_, rfl, rfl⟩
theorem Bct {b p : List UInt8} (hp : p.length ≤ 64) {y : Op8} (h : cadenzaref40_Opened b p = some y) : Gn b p = some y := by
 rw [Gn, if_neg (by rw [Bc, Ac]; simp; omega), h, Aa]
theorem Bcy {b p : List UInt8} {f c w r n A : Nat} {l : List Int} (o : Opn b p f c w r n A l) (k : Int) : Ze b p k = Ra k (framesL (longN r) n) (f : Int) (c : Int) (w : Int) (r : Int) (n : Int) (A : Int) b (tapsOf p) l (Asq l (l.length + 1)) := by
 have hs1 := o.some1
 rw [Ze, Ad1, o.prog, Aa]
 simp only
 rw [if_neg (by rw [Am]; simp), Alj o.shape o.fit, Aa]
 simp only
 rw [if_neg (by rw [Am]; simp), Bna hs1.2 o.five o.sum hs1.1, Aa]
 simp only
 rw [if_neg (by rw [Am]; simp), Bh2 p o.pass, Aa]
 simp only
 rw [if_neg (by rw [Am]; simp), Ac, ← o.len, Atl l (by omega), Aa, Aa]
theorem Bih (b p : List UInt8) (hp : 64 < p.length) (hp2 : p.length ≤ 1000) : seekto_Open b p = some (Asp 2) ∧ Gn b p = some (Asp 2) := by
 constructor
 ·rw [seekto_Open, Us, if_pos (by rw [Bc, Ac]; simp; omega)]; rfl
 ·rw [Gn, if_pos (by rw [Bc, Ac]; simp; omega)]; rfl
theorem An7 (l : List Int) (hl : l.length ≤ 100000) : ∀ (j i q : Nat), i + j = l.length → j < q → Dw l l q (i : Int) = some true
 | 0, i, q + 1, hi, _ => by
  rw [Dw, Hy, if_neg (by rw [Af, Ac]; simp; omega)]; rfl
 | j + 1, i, q + 1, hi, hq => by
  rw [Dw, Hy, if_pos (by rw [Af, Ac]; simp; omega), Df (by omega), Aa, Aa, if_neg (by rw [Am]; simp), Ag (by omega) (by omega)]
  exact An7 l hl j (i + 1) q (by omega) (by omega)
theorem Bjw (l : List Int) (hl : l.length ≤ 100000) : Ld l l = some true := by
 rw [Ld, Mt, if_neg (by rw [Am]; simp)]
 exact An7 l hl l.length 0 Ba (by omega) (by have := Aq; omega)
end Go.Pl
set_option linter.unusedVariables false
set_option linter.unusedSimpArgs false
namespace Go.Pl
open Go Go.Lv
def Bav (b : List UInt8) : List UInt8 := b.drop (b.length - 32)
def itA (t : List UInt8) : Nat := Eg (part t 12 4) - 32
def mnA (t : List UInt8) : Nat := Eg (part t 16 4)
section
variable {b : List UInt8}
variable (h : 32 ≤ b.length ∧ (Bav b).take 8 = APE)
include h
variable (h2 : Agt (Bav b) = false)
include h2
variable (h3 : Bav b ≠ Aep (itA (Bav b)) (mnA (Bav b)) 0)
include h3
variable (h4 : Bav b = Aep (itA (Bav b)) (mnA (Bav b)) 2147483648)
include h4
end
end Go.Pl
set_option linter.unusedVariables false
set_option linter.unusedSimpArgs false
namespace Go.Pl
open Go Go.Lv
theorem Bkl {a b : Nat} (h : a < 9223372036854775808) : Bo (a : Int) (b : Int) = ((a / b : Nat) : Int) := by
 have : a / b ≤ a := Nat.div_le_self _ _
 rw [Adr, Int.tdiv_eq_ediv_of_nonneg (by omega), ← Int.natCast_ediv]
 generalize a / b = k at *
 exact Bw (by omega) (by omega)
theorem Bhs {bits : Int} (h : Dv bits) (x : Int) : (Anl bits x).length = wB bits := by
 obtain rfl | rfl | rfl := h <;> rfl
theorem Ase {bits : Int} (h : Dv bits) : ∀ l : List Int32, (bytesB bits l).length = l.length * wB bits
 | [] => by simp [bytesB]
 | x :: l => by
  have h1 := Ase h l
  have h2 := Bhs h x.toInt
  simp only [bytesB, List.flatMap_cons, List.length_append, List.length_cons, Nat.succ_mul] at *
  omega
def segF (b : List UInt8) (A : Nat) (l : List Int) (k : Nat) : List UInt8 := (b.take ((A : Int) + (l.take (k + 1)).sum).toNat).drop ((A : Int) + (l.take k).sum).toNat
structure Gts (b p : List UInt8) (f c w r n A : Nat) (l : List Int) (k m : Nat) (x : List Int32) (s : List UInt8) (e : Int) : Prop where
 mom : getI (framesL (longN r) n) (k : Int) = some (m : Int)
 pos : 1 ≤ m ∧ m * c ≤ 4000
 got : cadenzaref40_Got b p (f : Int) (c : Int) (w : Int) (r : Int) (n : Int) (A : Int) l (k : Int) = some (s, e)
 none' : e ≠ 0 → s = [] ∧ x = []
 some' : e = 0 → s = bytesB (w : Int) x ∧ x.length = m * c ∧ cadenzaref18_Check (w : Int) x = some 0 ∧ width_Bytes (w : Int) x = some (s, 0) ∧ (A : Int) + (l.take (k + 1)).sum ≤ b.length
 way : ((b.length : Int) < (A : Int) + (l.take (k + 1)).sum ∧ e = 24) ∨ ((A : Int) + (l.take (k + 1)).sum ≤ b.length ∧ deframe_Decode (c : Int) (w : Int) (tapsOf p) (m : Int) (segF b A l k) = some (x, e) ∧ cadenzaref21_Decode (c : Int) (w : Int) (tapsOf p) (m : Int) (segF b A l k) = some (x, e))
theorem Axt {b p : List UInt8} {f c w r n A : Nat} {l : List Int} (o : Opn b p f c w r n A l) (k : Nat) (hk : k < l.length) : ∃ m x s e, Gts b p f c w r n A l k m x s e := by
 obtain ⟨hc, hw, hr, hn, _⟩ := Awj o.shape
 have hfit : n ≤ 4000 / c := by have := o.fit; simp only [fitB, decide_eq_true_eq] at this; exact this.1
 have hn4 : n ≤ 4000 := by have := Nat.div_le_self 4000 c; omega
 have hA := o.at'
 have hfile := o.file
 have hlen := o.len
 have b1 := Un o.five k
 have b2 := Un o.five (k + 1)
 have e := Ab8 hk
 have h5 := o.five l[k] (List.getElem_mem _)
 have hsum := o.sum
 have hs1 := o.some1
 have hkf : k < (framesL (longN r) n).length := by omega
 obtain ⟨m, hm, m1, m2⟩ := Aub (Aic r) hn (List.getElem_mem hkf)
 have hmom : getI (framesL (longN r) n) (k : Int) = some (m : Int) := by rw [Df hkf, hm]
 have hpos : 1 ≤ m ∧ m * c ≤ 4000 := by
  refine ⟨m1, ?_⟩
  have := Nat.mul_le_mul_right c (Nat.le_trans m2 hfit)
  have := Nat.div_mul_le_self 4000 c
  omega
 have hR : cadenzaref40_Got b p (f : Int) (c : Int) (w : Int) (r : Int) (n : Int) (A : Int) l (k : Int) = cadenzaref40_Got b p (f : Int) (c : Int) (w : Int) (r : Int) (n : Int) (A : Int) l (k : Int) := rfl
 conv at hR => rhs; rw [cadenzaref40_Got, Jh, Aw1 hs1.2 o.five o.sum _ _ _ _ _ (A : Int) (by omega) (by omega) k (by omega), Aa, Df hk, Aa, Bl (by rw [Ac]; omega) (by rw [Ac]; omega)]
 by_cases hto : (b.length : Int) < (A : Int) + (l.take (k + 1)).sum
 ·rw [if_pos (by rw [Af, Ac, decide_eq_true_eq]; omega)] at hR
  exact ⟨m, [], [], 24, hmom, hpos, hR, fun _ => ⟨rfl, rfl⟩, fun h => by simp at h, .inl ⟨hto, rfl⟩⟩
 ·rw [if_neg (by rw [Af, Ac, decide_eq_true_eq]; omega), Bb1 p o.pass, Apq hr.2 hn hn4] at hR
  simp only [Aa] at hR
  rw [Ag (a := (A : Int) + (l.take k).sum) (b := l[k]) (by omega) (by omega), Int.add_assoc, ← e, hmom] at hR
  simp only [Aa] at hR
  rw [Ady (by omega) (by omega) (by omega), Aa] at hR
  obtain ⟨x, er, g1, g2, g3, g4⟩ := Asa (ch := c) (n := m) (t := tapsOf p) (segF b A l k) hw (Avi p) hc.1 hc.2 m1 (by omega)
  rw [show (b.take ((A : Int) + (l.take (k + 1)).sum).toNat).drop ((A : Int) + (l.take k).sum).toNat = segF b A l k from rfl, g2, Aa] at hR
  simp only at hR
  rw [Oc, Vr] at hR
  by_cases her : er = 0
  ·obtain ⟨g5, g6, g7⟩ := g3 her
   rw [if_neg (by rw [Am]; simpa using her), Ax5 hw g6 g5, Aa] at hR
   subst her
   exact ⟨m, x, _, 0, hmom, hpos, hR, fun h => absurd rfl h, fun _ => ⟨rfl, g7, g5, Awi hw g6 g5, by omega⟩, .inr ⟨by omega, g1, g2⟩⟩
  ·rw [if_pos (by rw [Am]; simpa using her)] at hR
   exact ⟨m, x, _, er, hmom, hpos, hR, fun h => ⟨rfl, g4 h⟩, fun h => absurd h her, .inr ⟨by omega, g1, g2⟩⟩
theorem Gts.len {b p : List UInt8} {f c w r n A : Nat} {l : List Int} {k m : Nat} {x : List Int32} {s : List UInt8} {e : Int} (hw : Dv (w : Int)) (g : Gts b p f c w r n A l k m x s e) : s.length ≤ 12000 ∧ x.length ≤ 4000 ∧ (e = 0 → s.length = m * c * wB (w : Int)) := by
 by_cases he : e = 0
 ·obtain ⟨h1, h2, _⟩ := g.some' he
  have h3 := Ake (w : Int) x
  have h4 := Ase hw x
  have h5 := g.pos
  rw [← h1] at h3 h4
  refine ⟨by omega, by omega, fun _ => by rw [h4, h2]⟩
 ·obtain ⟨h1, h2⟩ := g.none' he
  exact ⟨by simp [h1], by simp [h2], fun h => absurd h he⟩
def At3 (b p : List UInt8) (f c w r n A : Nat) (l : List Int) (k : Nat) : List UInt8 × Int := (cadenzaref40_Got b p (f : Int) (c : Int) (w : Int) (r : Int) (n : Int) (A : Int) l (k : Int)).getD ([], 0)
theorem Gts.eq {b p : List UInt8} {f c w r n A : Nat} {l : List Int} {k m : Nat} {x : List Int32} {s : List UInt8} {e : Int} (g : Gts b p f c w r n A l k m x s e) : At3 b p f c w r n A l k = (s, e) := by rw [At3, g.got]; rfl
section
variable {b p : List UInt8} {f c w r n A : Nat} {l : List Int} (o : Opn b p f c w r n A l)
include o
end
end Go.Pl
set_option linter.unusedVariables false
set_option linter.unusedSimpArgs false
namespace Go.Pl
open Go Go.Lv
def Ny (b : List UInt8) (k : Nat) : Nat := (b.getD k 0).toNat
theorem An0 (b : List UInt8) (k : Nat) : Ny b k < 256 := (b.getD k 0).toNat_lt
def sx (n : Nat) (b : List UInt8) (a : Nat) : Int :=
 if n = 1 then (Ny b a : Int) - 128 else
 if n = 2 then (if Ny b a + 256 * Ny b (a + 1) < 32768 then (Ny b a + 256 * Ny b (a + 1) : Nat) else ((Ny b a + 256 * Ny b (a + 1) : Nat) : Int) - 65536) else
 (if Ny b a + 256 * Ny b (a + 1) + 65536 * Ny b (a + 2) < 8388608 then (Ny b a + 256 * Ny b (a + 1) + 65536 * Ny b (a + 2) : Nat) else ((Ny b a + 256 * Ny b (a + 1) + 65536 * Ny b (a + 2) : Nat) : Int) - 16777216)
def sxs (n m : Nat) (b : List UInt8) : List Int32 := (List.range m).map fun x => Int32.ofInt (sx n b (x * n))
theorem Ay0 (n m : Nat) (b : List UInt8) : (sxs n m b).length = m := by simp [sxs]
theorem Bbf (n m : Nat) (b : List UInt8) : sxs n (m + 1) b = sxs n m b ++ [Int32.ofInt (sx n b (m * n))] := by simp [sxs, List.range_succ]
theorem Ap9 {n : Int} (h : -2147483648 ≤ n) (h' : n < 2147483648) : (Int32.ofInt n).toInt = n := by
 rw [Int32.toInt_ofInt, Int.bmod_def, show ((Int32.size : Nat) : Int) = 4294967296 from rfl]; split <;> omega
theorem Ajy {b : List UInt8} {k : Nat} (h : k < b.length) : getI b (k : Int) = some (b.getD k 0) := by
 rw [Df h]; simp [List.getD_eq_getElem?_getD, h]
theorem Af3 (c : UInt8) : (Ad c : Int32) = Int32.ofInt (c.toNat : Int) := rfl
theorem Aq7 {v : Nat} (k : Nat) (hk : k ≤ 32) (h : v < 2147483648) : Dx (Int32.ofInt (v : Int)) k = Int32.ofInt ((v * 2 ^ k : Nat) : Int) := by
 have e : Dx (Int32.ofInt (v : Int)) k = Int32.ofInt ((Int32.ofInt (v : Int)).toInt * 2 ^ min k 32) := rfl
 rw [e, Ap9 (by omega) (by omega), Nat.min_eq_left hk]; simp
theorem Bop {v w i : Nat} (hv : v < 2 ^ i) (hw : w * 2 ^ i < 2147483648) (hi : i ≤ 31) : gor (Int32.ofInt (v : Int)) (Int32.ofInt ((w * 2 ^ i : Nat) : Int)) = Int32.ofInt ((v + w * 2 ^ i : Nat) : Int) := by
 have hv2 : v < 2147483648 := Nat.lt_of_lt_of_le hv (show 2 ^ i ≤ 2 ^ 31 from Nat.pow_le_pow_right (by omega) hi)
 have e : gor (Int32.ofInt (v : Int)) (Int32.ofInt ((w * 2 ^ i : Nat) : Int)) = Int32.ofInt ((BitVec.ofInt 32 (Int32.ofInt (v : Int)).toInt ||| BitVec.ofInt 32 (Int32.ofInt ((w * 2 ^ i : Nat) : Int)).toInt).toNat : Int) := rfl
 rw [e, Ap9 (by omega) (by omega), Ap9 (by omega) (by omega), BitVec.toNat_or, BitVec.toNat_ofInt, BitVec.toNat_ofInt]
 have a1 : ((v : Int) % ((2 ^ 32 : Nat) : Int)).toNat = v := by omega
 have a2 : (((w * 2 ^ i : Nat) : Int) % ((2 ^ 32 : Nat) : Int)).toNat = w * 2 ^ i := by omega
 rw [a1, a2, Nat.or_comm, Nat.mul_comm w, ← Nat.two_pow_add_eq_or_of_lt hv, Nat.add_comm]
theorem Axv (w : Nat) (h : w < 2147483648) : gor (0 : Int32) (Int32.ofInt (w : Int)) = Int32.ofInt (w : Int) := by
 have := Bop (v := 0) (w := w) (i := 0) (by simp) (by simpa using h) (by omega)
 simpa using this
theorem carry {v k : Nat} (hk : k ≤ 31) (h : v * 2 ^ k < 4294967296) (hv : v < 2147483648) : Cq (Dx (Int32.ofInt (v : Int)) k) k = Int32.ofInt ((if v * 2 ^ k < 2147483648 then ((v * 2 ^ k : Nat) : Int) else ((v * 2 ^ k : Nat) : Int) - 4294967296).fdiv (2 ^ k)) := by
 rw [Aq7 k (by omega) hv]
 have e : ∀ x : Int32, Cq x k = Int32.ofInt (x.toInt.fdiv (2 ^ min k 32)) := fun _ => rfl
 have hX : (Int32.ofInt ((v * 2 ^ k : Nat) : Int)).toInt = if v * 2 ^ k < 2147483648 then ((v * 2 ^ k : Nat) : Int) else ((v * 2 ^ k : Nat) : Int) - 4294967296 := by
  rw [Int32.toInt_ofInt, Int.bmod_def, show ((Int32.size : Nat) : Int) = 4294967296 from rfl]
  generalize v * 2 ^ k = X at *
  split <;> split <;> omega
 rw [e, Nat.min_eq_left (by omega), hX]
theorem sx2 (b : List UInt8) (a : Nat) : sx 2 b a = if Ny b a + 256 * Ny b (a + 1) < 32768 then ((Ny b a + 256 * Ny b (a + 1) : Nat) : Int) else ((Ny b a + 256 * Ny b (a + 1) : Nat) : Int) - 65536 := rfl
theorem sx3 (b : List UInt8) (a : Nat) : sx 3 b a = if Ny b a + 256 * Ny b (a + 1) + 65536 * Ny b (a + 2) < 8388608 then ((Ny b a + 256 * Ny b (a + 1) + 65536 * Ny b (a + 2) : Nat) : Int) else ((Ny b a + 256 * Ny b (a + 1) + 65536 * Ny b (a + 2) : Nat) : Int) - 16777216 := rfl
variable (b : List UInt8)
theorem Brw (bk : Int → List Int32 → Option (List Int32 × Int)) (a : Nat) (acc : List Int32) (h : a + 1 ≤ b.length) (hl : b.length ≤ 100000) (ha : acc.length ≤ 100000) (j25 : Int → List Int32 → Int32 → Int → Option (List Int32 × Int)) (j30 : List Int32 → Option (List Int32 × Int)) :
  Ec (Gj bk 8 b) j25 j30 8 b (a : Int) acc = bk ((a + 1 : Nat) : Int) (acc ++ [Int32.ofInt (sx 1 b a)]) := by
 have hb := An0 b a
 have e : Al (Ad (b.getD a 0) : Int32) (128 : Int32) = Int32.ofInt (sx 1 b a) := by
  have e1 : Al (Ad (b.getD a 0) : Int32) (128 : Int32) = Int32.ofInt ((Int32.ofInt ((b.getD a 0).toNat : Int)).toInt - (128 : Int32).toInt) := rfl
  rw [e1, Ap9 (by omega) (by have := (b.getD a 0).toNat_lt; omega)]; rfl
 have q8 : Bo (8 : Int) 8 = 1 := by decide
 rw [Ec, if_pos (by rw [Af, Ac]; simp; omega), if_pos (by rw [Ca]; rfl), Ajy (by omega), Aa, e, Dp (by simp; omega), Aa, Gj, Td, q8, Ag (by omega) (by omega)]; rfl
theorem Bqi (bk : Int → List Int32 → Option (List Int32 × Int)) (a : Nat) (acc : List Int32) (h : a + 2 ≤ b.length) (hl : b.length ≤ 100000) (ha : acc.length ≤ 100000) (j28 : Int → List Int32 → Option (List Int32 × Int)) (j30 : List Int32 → Option (List Int32 × Int)) :
  Ec j28 (Io bk 16 b) j30 16 b (a : Int) acc = bk ((a + 2 : Nat) : Int) (acc ++ [Int32.ofInt (sx 2 b a)]) := by
 have h0 := An0 b a
 have h1 := An0 b (a + 1)
 have q : Bo (16 : Int) 8 = 2 := by decide
 have hF : Ba = (Ba - 3) + 1 + 1 + 1 := by have := Aq; omega
 have z0 : (GI.toZ (Bi (8 : Int) 0)).toNat = 0 := by decide
 have z1 : (GI.toZ (Bi (8 : Int) 1)).toNat = 8 := by decide
 have z16 : (GI.toZ (Al (32 : Int) 16)).toNat = 16 := by decide
 have s0 : Dx (Int32.ofInt (Ny b a : Int)) 0 = Int32.ofInt (Ny b a : Int) := by have := Aq7 (v := Ny b a) 0 (by omega) (by omega); simpa using this
 have s1 : Dx (Int32.ofInt (Ny b (a + 1) : Int)) 8 = Int32.ofInt ((Ny b (a + 1) * 2 ^ 8 : Nat) : Int) := Aq7 8 (by omega) (by omega)
 have o1 := Bop (v := Ny b a) (w := Ny b (a + 1)) (i := 8) (by simpa using h0) (by omega) (by omega)
 have c := carry (v := Ny b a + Ny b (a + 1) * 2 ^ 8) (k := 16) (by omega) (by omega) (by omega)
 rw [Ec, if_pos (by rw [Af, Ac]; simp; omega), if_neg (by rw [Ca]; decide), Io, hF, Dn, Ed, q, if_pos (by decide), show Ae (a : Int) 0 = ((a : Nat) : Int) by rw [Ag (by omega) (by omega)]; omega, Ajy (by omega), Aa, Bz (by decide), Aa, z0,
  Af3, show ((b.getD a 0).toNat : Int) = (Ny b a : Int) from rfl, s0, Axv _ (by omega), show Ae (0 : Int) 1 = 1 by decide,
  Dn, Ed, q, if_pos (by decide), show Ae (a : Int) 1 = ((a + 1 : Nat) : Int) by rw [Ag (by omega) (by omega)]; omega, Ajy (by omega), Aa, Bz (by decide), Aa, z1,
  Af3, show ((b.getD (a + 1) 0).toNat : Int) = (Ny b (a + 1) : Int) from rfl, s1, o1, show Ae (1 : Int) 1 = 2 by decide,
  Dn, Ed, q, if_neg (by decide), Tl, Sr, Bz (by decide), Aa, Aa, z16, c, Dp (by simp; omega), Aa, Gj, Td, q, Ag (by omega) (by omega)]
 have e : ((if (Ny b a + Ny b (a + 1) * 2 ^ 8) * 2 ^ 16 < 2147483648 then (((Ny b a + Ny b (a + 1) * 2 ^ 8) * 2 ^ 16 : Nat) : Int) else (((Ny b a + Ny b (a + 1) * 2 ^ 8) * 2 ^ 16 : Nat) : Int) - 4294967296).fdiv (2 ^ 16)) = sx 2 b a := by
  rw [Int.fdiv_eq_ediv_of_nonneg _ (by omega), sx2]
  split <;> split <;> omega
 rw [e]; rfl
theorem Bqd (bk : Int → List Int32 → Option (List Int32 × Int)) (a : Nat) (acc : List Int32) (h : a + 3 ≤ b.length) (hl : b.length ≤ 100000) (ha : acc.length ≤ 100000) (j28 : Int → List Int32 → Option (List Int32 × Int)) (j30 : List Int32 → Option (List Int32 × Int)) :
  Ec j28 (Io bk 24 b) j30 24 b (a : Int) acc = bk ((a + 3 : Nat) : Int) (acc ++ [Int32.ofInt (sx 3 b a)]) := by
 have h0 := An0 b a
 have h1 := An0 b (a + 1)
 have h2 := An0 b (a + 2)
 have q : Bo (24 : Int) 8 = 3 := by decide
 have hF : Ba = (Ba - 4) + 1 + 1 + 1 + 1 := by have := Aq; omega
 have z0 : (GI.toZ (Bi (8 : Int) 0)).toNat = 0 := by decide
 have z1 : (GI.toZ (Bi (8 : Int) 1)).toNat = 8 := by decide
 have z2 : (GI.toZ (Bi (8 : Int) 2)).toNat = 16 := by decide
 have z8 : (GI.toZ (Al (32 : Int) 24)).toNat = 8 := by decide
 have s0 : Dx (Int32.ofInt (Ny b a : Int)) 0 = Int32.ofInt (Ny b a : Int) := by have := Aq7 (v := Ny b a) 0 (by omega) (by omega); simpa using this
 have s1 : Dx (Int32.ofInt (Ny b (a + 1) : Int)) 8 = Int32.ofInt ((Ny b (a + 1) * 2 ^ 8 : Nat) : Int) := Aq7 8 (by omega) (by omega)
 have s2 : Dx (Int32.ofInt (Ny b (a + 2) : Int)) 16 = Int32.ofInt ((Ny b (a + 2) * 2 ^ 16 : Nat) : Int) := Aq7 16 (by omega) (by omega)
 have o1 := Bop (v := Ny b a) (w := Ny b (a + 1)) (i := 8) (by simpa using h0) (by omega) (by omega)
 have o2 := Bop (v := Ny b a + Ny b (a + 1) * 2 ^ 8) (w := Ny b (a + 2)) (i := 16) (by omega) (by omega) (by omega)
 have c := carry (v := Ny b a + Ny b (a + 1) * 2 ^ 8 + Ny b (a + 2) * 2 ^ 16) (k := 8) (by omega) (by omega) (by omega)
 rw [Ec, if_pos (by rw [Af, Ac]; simp; omega), if_neg (by rw [Ca]; decide), Io, hF, Dn, Ed, q, if_pos (by decide), show Ae (a : Int) 0 = ((a : Nat) : Int) by rw [Ag (by omega) (by omega)]; omega, Ajy (by omega), Aa, Bz (by decide), Aa, z0,
  Af3, show ((b.getD a 0).toNat : Int) = (Ny b a : Int) from rfl, s0, Axv _ (by omega), show Ae (0 : Int) 1 = 1 by decide,
  Dn, Ed, q, if_pos (by decide), show Ae (a : Int) 1 = ((a + 1 : Nat) : Int) by rw [Ag (by omega) (by omega)]; omega, Ajy (by omega), Aa, Bz (by decide), Aa, z1,
  Af3, show ((b.getD (a + 1) 0).toNat : Int) = (Ny b (a + 1) : Int) from rfl, s1, o1, show Ae (1 : Int) 1 = 2 by decide,
  Dn, Ed, q, if_pos (by decide), show Ae (a : Int) 2 = ((a + 2 : Nat) : Int) by rw [Ag (by omega) (by omega)]; omega, Ajy (by omega), Aa, Bz (by decide), Aa, z2,
  Af3, show ((b.getD (a + 2) 0).toNat : Int) = (Ny b (a + 2) : Int) from rfl, s2, o2, show Ae (2 : Int) 1 = 3 by decide,
  Dn, Ed, q, if_neg (by decide), Tl, Sr, Bz (by decide), Aa, Aa, z8, c, Dp (by simp; omega), Aa, Gj, Td, q, Ag (by omega) (by omega)]
 have e : ((if (Ny b a + Ny b (a + 1) * 2 ^ 8 + Ny b (a + 2) * 2 ^ 16) * 2 ^ 8 < 2147483648 then (((Ny b a + Ny b (a + 1) * 2 ^ 8 + Ny b (a + 2) * 2 ^ 16) * 2 ^ 8 : Nat) : Int) else (((Ny b a + Ny b (a + 1) * 2 ^ 8 + Ny b (a + 2) * 2 ^ 16) * 2 ^ 8 : Nat) : Int) - 4294967296).fdiv (2 ^ 8)) = sx 3 b a := by
  rw [Int.fdiv_eq_ediv_of_nonneg _ (by omega), sx3]
  split <;> split <;> omega
 rw [e]; rfl
theorem Ao4 (bits : Int) (n m : Nat) (hn : 1 ≤ n) (hm : b.length = m * n) (hl : b.length ≤ 100000) (step : ∀ (q a : Nat) (acc : List Int32), a + n ≤ b.length → acc.length ≤ 100000 → Cy bits b (q + 1) (a : Int) acc = Cy bits b q ((a + n : Nat) : Int) (acc ++ [Int32.ofInt (sx n b a)])) :
  ∀ (j x q : Nat), x + j = m → j < q → Cy bits b q ((x * n : Nat) : Int) (sxs n x b) = some (sxs n m b, 0)
 | 0, x, q + 1, hx, _ => by
  obtain rfl : x = m := by omega
  rw [Cy, Ec, if_neg (by rw [Af, Ac]; simp; omega)]; rfl
 | j + 1, x, q + 1, hx, hq => by
  have h1 : (x + 1) * n ≤ m * n := Nat.mul_le_mul_right n (by omega)
  rw [Nat.add_mul, Nat.one_mul] at h1
  have h2 : m ≤ m * n := Nat.le_mul_of_pos_right m hn
  rw [step q (x * n) _ (by omega) (by rw [Ay0]; omega), ← Bbf, show x * n + n = (x + 1) * n by rw [Nat.add_mul, Nat.one_mul]]
  exact Ao4 bits n m hn hm hl step j (x + 1) q (by omega) (by omega)
theorem Bru {bits : Int} (h : Dv bits) (hl : b.length ≤ 100000) (q a : Nat) (acc : List Int32) (ha : a + wB bits ≤ b.length) (hc : acc.length ≤ 100000) :
  Cy bits b (q + 1) (a : Int) acc = Cy bits b q ((a + wB bits : Nat) : Int) (acc ++ [Int32.ofInt (sx (wB bits) b a)]) := by
 rw [Cy]
 obtain rfl | rfl | rfl := h
 ·exact Brw b _ a acc ha hl hc _ _
 ·exact Bqi b _ a acc ha hl hc _ _
 ·exact Bqd b _ a acc ha hl hc _ _
theorem Azm {bits : Int} (h : Dv bits) {m : Nat} (hm : b.length = m * wB bits) (h4 : m ≤ 4000) : Wp bits b = some (sxs (wB bits) m b, 0) := by
 have hn := Aug bits
 have hl : b.length ≤ 12000 := by rw [hm]; exact Nat.mul_le_mul h4 hn.2
 rw [Wp, Abs, Be0 h, Aa]
 simp only
 rw [if_neg (by rw [Am]; simp), Aq4 h, Bz (by rw [Am]; simp; omega), Aa]
 have hr : Hz (Ac b) (wB bits : Int) = 0 := by rw [Ac, Aox, hm, Nat.mul_mod_left]; rfl
 have hq : Bo (Ac b) (wB bits : Int) = (m : Int) := by rw [Ac, Bkl (by omega), hm, Nat.mul_div_cancel _ (by omega)]
 rw [if_neg (by rw [Am, hr]; simp), Aa, hq, if_neg (by rw [Bc]; simp; omega), Zr]
 have := Ao4 b bits (wB bits) m (by omega) hm (by omega) (fun q a acc ha hc => Bru b h (by omega) q a acc ha hc) m 0 Ba (by omega) (by have := Aq; omega)
 simpa [sxs] using this
theorem Bmt {bits : Int} (h : Dv bits) (hl : b.length ≤ 100000) (q a : Nat) (acc : List Int32) (ha : a + wB bits ≤ b.length) (hc : acc.length ≤ 100000) :
  Bs bits b (hB bits) (q + 1) (a : Int) acc = Bs bits b (hB bits) q ((a + wB bits : Nat) : Int) (acc ++ [Int32.ofInt (sx (wB bits) b a)]) := by
 have h0 := An0 b a
 have h1 := An0 b (a + 1)
 have h2 := An0 b (a + 2)
 have gc : ∀ k, (Ad (b.getD k 0) : Int) = (Ny b k : Int) := fun k => Abj _
 have gx : ∀ z : Int, (Ad z : Int32) = Int32.ofInt z := fun z => rfl
 have hF : Ba = (Ba - 7) + 1 + 1 + 1 + 1 + 1 + 1 + 1 := by have := Aq; omega
 have hw1 : wB bits = 1 ∨ wB bits = 2 ∨ wB bits = 3 := by have := Aug bits; omega
 have hend : ∀ (bk : Int → List Int32 → Option (List Int32 × Int)) (z : Int), 0 ≤ z → z < 2 * hB bits → z = (if bits = 8 then (Ny b a : Int) else if bits = 16 then ((Ny b a + 256 * Ny b (a + 1) : Nat) : Int) else ((Ny b a + 256 * Ny b (a + 1) + 65536 * Ny b (a + 2) : Nat) : Int)) →
   Fv bk bits b (hB bits) (a : Int) z acc = bk ((a + wB bits : Nat) : Int) (acc ++ [Int32.ofInt (sx (wB bits) b a)]) := by
  intro bk z z0 z1 z2
  rw [Fv, Mw]
  have e28 : ∀ acc2, Hx bk bits b (hB bits) (a : Int) acc2 = bk ((a + wB bits : Nat) : Int) acc2 := by
   intro acc2
   rw [Hx, Wf, Aq4 h, Ag (by omega) (by omega)]; rfl
  simp only [e28]
  obtain rfl | rfl | rfl := h
  ·rw [if_pos (by decide), Bl (by omega) (by simp [hB] at z1; omega), Dp (by simp; omega), Aa, gx, z2]; rfl
  ·rw [if_neg (by decide)]
   have e9 : hB 16 = 32768 := rfl
   rw [e9] at z1 ⊢
   simp only [show ¬ (16 : Int) = 8 by decide, if_false, if_true] at z2
   have e10 : wB 16 = 2 := rfl
   rw [e10, sx2]
   by_cases hz : 32768 ≤ z
   ·rw [if_pos (by rw [Dl]; simpa using hz), Hc (by omega) (by omega), Bl (by omega) (by omega), Dp (by simp; omega), Aa, gx, if_neg (by omega), z2]; rfl
   ·rw [if_neg (by rw [Dl]; simpa using hz), Dp (by simp; omega), Aa, gx, if_pos (by omega), z2]
  ·rw [if_neg (by decide)]
   have e9 : hB 24 = 8388608 := rfl
   rw [e9] at z1 ⊢
   simp only [show ¬ (24 : Int) = 8 by decide, show ¬ (24 : Int) = 16 by decide, if_false] at z2
   have e10 : wB 24 = 3 := rfl
   rw [e10, sx3]
   by_cases hz : 8388608 ≤ z
   ·rw [if_pos (by rw [Dl]; simpa using hz), Hc (by omega) (by omega), Bl (by omega) (by omega), Dp (by simp; omega), Aa, gx, if_neg (by omega), z2]; rfl
   ·rw [if_neg (by rw [Dl]; simpa using hz), Dp (by simp; omega), Aa, gx, if_pos (by omega), z2]
 have step : ∀ (bk : Int → List Int32 → Option (List Int32 × Int)) (q2 : Nat) (k : Int) (i : Nat), a + i < b.length → 0 ≤ k → k < 65536 → Cl bk bits b (hB bits) (a : Int) acc (q2 + 1) k (i : Int) = Cl bk bits b (hB bits) (a : Int) acc q2 (256 * k + (Ny b (a + i) : Int)) ((i : Int) - 1) := by
  intro bk q2 k i hi hk hk2
  have := An0 b (a + i)
  rw [Cl, Ia, if_pos (by rw [Dl]; simp), Ag (a := (a : Int)) (by omega) (by omega), show (a : Int) + (i : Int) = ((a + i : Nat) : Int) by omega, Ajy (by omega), Aa, gc, Hc (by omega) (by omega), Ag (by omega) (by omega), Bl (by omega) (by omega)]
 have last : ∀ (bk : Int → List Int32 → Option (List Int32 × Int)) (q2 : Nat) (k : Int), Cl bk bits b (hB bits) (a : Int) acc (q2 + 1) k (-1) = Fv bk bits b (hB bits) (a : Int) k acc := by
  intro bk q2 k
  rw [Cl, Ia, if_neg (by rw [Dl]; decide)]
 rw [Bs, Ib, if_pos (by rw [Af, Ac]; simp; omega), Na, hF]
 generalize Bs bits b (hB bits) q = bk at *
 have hwq := Aq4 h
 rw [hwq, Bl (by omega) (by omega)]
 obtain rfl | rfl | rfl := h
 ·have e10 : wB 8 = 1 := rfl
  rw [e10] at ha ⊢
  rw [show (((1 : Nat) : Int) - 1) = ((0 : Nat) : Int) by omega, step _ _ 0 0 (by omega) (by omega) (by omega), show (((0 : Nat) : Int) - 1) = -1 by omega, last]
  exact hend bk _ (by omega) (by simp [hB]; omega) (by simp)
 ·have e10 : wB 16 = 2 := rfl
  rw [e10] at ha ⊢
  rw [show (((2 : Nat) : Int) - 1) = ((1 : Nat) : Int) by omega, step _ _ 0 1 (by omega) (by omega) (by omega), show (((1 : Nat) : Int) - 1) = ((0 : Nat) : Int) by omega, step _ _ _ 0 (by omega) (by omega) (by omega), show (((0 : Nat) : Int) - 1) = -1 by omega, last]
  exact hend bk _ (by omega) (by simp [hB]; omega) (by simp; omega)
 ·have e10 : wB 24 = 3 := rfl
  rw [e10] at ha ⊢
  rw [show (((3 : Nat) : Int) - 1) = ((2 : Nat) : Int) by omega, step _ _ 0 2 (by omega) (by omega) (by omega), show (((2 : Nat) : Int) - 1) = ((1 : Nat) : Int) by omega, step _ _ _ 1 (by omega) (by omega) (by omega), show (((1 : Nat) : Int) - 1) = ((0 : Nat) : Int) by omega, step _ _ _ 0 (by omega) (by omega) (by omega), show (((0 : Nat) : Int) - 1) = -1 by omega, last]
  exact hend bk _ (by omega) (by simp [hB]; omega) (by simp; omega)
theorem Aja {bits : Int} (h : Dv bits) {m : Nat} (hm : b.length = m * wB bits) (hl : b.length ≤ 100000) :
  ∀ (j x q : Nat), x + j = m → j < q → Bs bits b (hB bits) q ((x * wB bits : Nat) : Int) (sxs (wB bits) x b) = some (sxs (wB bits) m b, 0)
 | 0, x, q + 1, hx, _ => by
  obtain rfl : x = m := by omega
  rw [Bs, Ib, if_neg (by rw [Af, Ac]; simp; omega)]; rfl
 | j + 1, x, q + 1, hx, hq => by
  have hn := Aug bits
  have h1 : (x + 1) * wB bits ≤ m * wB bits := Nat.mul_le_mul_right _ (by omega)
  rw [Nat.add_mul, Nat.one_mul] at h1
  have h2 : m ≤ m * wB bits := Nat.le_mul_of_pos_right m hn.1
  rw [Bmt b h hl q (x * wB bits) _ (by omega) (by rw [Ay0]; omega), ← Bbf, show x * wB bits + wB bits = (x + 1) * wB bits by rw [Nat.add_mul, Nat.one_mul]]
  exact Aja h hm hl j (x + 1) q (by omega) (by omega)
theorem Bbh {bits : Int} (h : Dv bits) {m : Nat} (hm : b.length = m * wB bits) (h4 : m ≤ 4000) : Il bits b = some (sxs (wB bits) m b, 0) := by
 have hn := Aug bits
 have hl : b.length ≤ 12000 := by rw [hm]; exact Nat.mul_le_mul h4 hn.2
 have hpos := Aql bits
 rw [Il, Od, Ati h, Aa, if_neg (by rw [Ca]; simp; omega), Aq4 h, Bz (by rw [Am]; simp; omega), Aa]
 have hr : Hz (Ac b) (wB bits : Int) = 0 := by rw [Ac, Aox, hm, Nat.mul_mod_left]; rfl
 have hq : Bo (Ac b) (wB bits : Int) = (m : Int) := by rw [Ac, Bkl (by omega), hm, Nat.mul_div_cancel _ (by omega)]
 rw [if_neg (by rw [Bc, hr]; simp), Aa, hq, if_neg (by rw [Bc]; simp; omega), Mu]
 have := Aja b h hm (by omega) m 0 Ba (by omega) (by have := Aq; omega)
 simpa [sxs] using this
end Go.Pl
set_option linter.unusedVariables false
set_option linter.unusedSimpArgs false
namespace Go.Pl
open Go Go.Lv
section
variable {b p : List UInt8} {f c w r n A : Nat} {l : List Int} (o : Opn b p f c w r n A l)
include o
end
end Go.Pl
set_option linter.unusedVariables false
set_option linter.unusedSimpArgs false
namespace Go.Pl
open Go Go.Lv
section
variable {b p : List UInt8} {f c w r n A : Nat} {l : List Int} (o : Opn b p f c w r n A l)
include o
theorem Bh5 {k m : Nat} {x : List Int32} {s : List UInt8} {e : Int} (hk : k < l.length) (g : Gts b p f c w r n A l k m x s e) : Ze b p (k : Int) = some (s, e) := by
 obtain ⟨y, h1, h2⟩ := Bh1 o k hk
 rw [Bcy o, h1, ← g.got, h2]
end
def Asj (G : Nat → List UInt8 × Int) : Nat → Nat → List Int → List Int
 | 0, _, acc => acc
 | j + 1, k, acc => Asj G j (k + 1) (if (G k).2 ≠ 0 then acc ++ [(k : Int)] else acc)
theorem Bbg (G : Nat → List UInt8 × Int) : ∀ (j k : Nat) (acc : List Int), (Asj G j k acc).length ≤ acc.length + j
 | 0, k, acc => by simp [Asj]
 | j + 1, k, acc => by
  have := Bbg G j (k + 1) (if (G k).2 ≠ 0 then acc ++ [(k : Int)] else acc)
  rw [Asj]
  by_cases h : (G k).2 ≠ 0
  ·rw [if_pos h] at this ⊢; rw [List.length_append] at this; simp at this; omega
  ·rw [if_neg h] at this ⊢; omega
def smF (w : Nat) (y : List UInt8 × Int) : List Int32 := if y.2 ≠ 0 then [] else sxs (wB (w : Int)) (y.1.length / wB (w : Int)) y.1
def Bnz (w : Nat) (G : Nat → List UInt8 × Int) : Nat → Nat → List (List Int32) → List (List Int32)
 | 0, _, acc => acc
 | j + 1, k, acc => Bnz w G j (k + 1) (acc ++ [smF w (G k)])
section
variable {b p : List UInt8} {f c w r n A : Nat} {l : List Int} (o : Opn b p f c w r n A l)
include o
theorem Are {k m : Nat} {x : List Int32} {s : List UInt8} (g : Gts b p f c w r n A l k m x s 0) : Wp (w : Int) s = some (smF w (s, 0), 0) ∧ Il (w : Int) s = some (smF w (s, 0), 0) ∧ (smF w (s, 0)).length = m * c := by
 obtain ⟨hc, hw, hr, hn, _⟩ := Awj o.shape
 have hwb := Aug (w : Int)
 have hl := (g.len hw).2.2 rfl
 have hm := g.pos
 have e : s.length / wB (w : Int) = m * c := by rw [hl, Nat.mul_div_cancel _ (by omega)]
 rw [smF, if_neg (by simp), e]
 exact ⟨Azm s hw hl hm.2, Bbh s hw hl hm.2, Ay0 _ _ _⟩
theorem Bdb : ∀ (j k q : Nat) (acc : List Int), k + j = l.length → j < q → acc.length ≤ k →
  Kr b p (framesL (longN r) n) (f : Int) (c : Int) (w : Int) (r : Int) (n : Int) (A : Int) l q (k : Int) acc = some (Asj (At3 b p f c w r n A l) j k acc, 0)
 | 0, k, q + 1, acc, hk, _, _ => by
  rw [Kr, Yt, if_neg (by rw [Af, Ac, ← o.len]; simp; omega), Afu, Af7, Kn, Agi, if_neg (by rw [Am]; simp)]; rfl
 | j + 1, k, q + 1, acc, hk, hq, ha => by
  have hs1 := o.some1
  obtain ⟨m, x, s, e, g⟩ := Axt o k (by omega)
  have hf := Bh5 o (by omega) g
  have hnext : ∀ acc2 : List Int, acc2.length ≤ k + 1 → Zt (Kr b p (framesL (longN r) n) (f : Int) (c : Int) (w : Int) (r : Int) (n : Int) (A : Int) l q) b p (framesL (longN r) n) (f : Int) (c : Int) (w : Int) (r : Int) (n : Int) (A : Int) l (k : Int) acc2 = some (Asj (At3 b p f c w r n A l) j (k + 1) acc2, 0) := by
   intro acc2 h2
   rw [Zt, Aff, if_neg (by rw [Am]; simp), Afx, Amh, Ag (by omega) (by omega)]
   exact Bdb j (k + 1) q acc2 (by omega) (by omega) h2
  rw [Kr, Yt, if_pos (by rw [Af, Ac, ← o.len]; simp; omega), g.mom, Aa, Aa, hf, Aa, Asj, g.eq]
  simp only
  by_cases he : e = 0
  ·subst he
   obtain ⟨s1, _, _⟩ := Are o g
   rw [if_pos (by decide), s1, Aa]
   simp only
   rw [if_neg (by rw [Am]; simp), Yr, Aaf, if_neg (by decide), if_neg (by simp)]
   exact hnext acc (by omega)
  ·rw [if_neg (by rw [Ca]; simpa using he), Yr, Aaf, if_pos (by rw [Ca]; simpa using he), Dp (by simp; omega), Aa, if_pos he]
   exact hnext _ (by simp; omega)
theorem Amk : ∀ (j k q : Nat) (a : List (List Int32)) (acc : List Int), k + j = l.length → j < q → acc.length ≤ k → a.length = k →
  Ew b p (f : Int) (c : Int) (w : Int) (r : Int) (n : Int) (A : Int) l q (k : Int) a acc = some (Bnz w (At3 b p f c w r n A l) j k a, Asj (At3 b p f c w r n A l) j k acc)
 | 0, k, q + 1, a, acc, hk, _, _, _ => by
  rw [Ew, Js, if_neg (by rw [Af, Ac]; simp; omega)]; rfl
 | j + 1, k, q + 1, a, acc, hk, hq, hacc, ha => by
  have hs1 := o.some1
  obtain ⟨m, x, s, e, g⟩ := Axt o k (by omega)
  rw [Ew, Js, if_pos (by rw [Af, Ac]; simp; omega), g.got, Aa, Asj, Bnz, g.eq]
  simp only
  by_cases he : e = 0
  ·subst he
   obtain ⟨_, s1, _⟩ := Are o g
   rw [if_neg (by rw [Am]; simp), s1, Aa]
   simp only
   rw [Dp (by simp; omega), Aa, Ag (by omega) (by omega), if_neg (by simp)]
   exact Amk j (k + 1) q _ acc (by omega) (by omega) (by omega) (by simp; omega)
  ·rw [if_pos (by rw [Am]; simpa using he), Dp (by simp; omega), Aa, Dp (by simp; omega), Aa, Ag (by omega) (by omega), if_pos he]
   rw [show smF w (s, e) = [] by rw [smF, if_pos he]]
   exact Amk j (k + 1) q _ _ (by omega) (by omega) (by simp; omega) (by simp; omega)
theorem Bbu : Vx b p (f : Int) (c : Int) (w : Int) (r : Int) (n : Int) (A : Int) l = some (Bnz w (At3 b p f c w r n A l) l.length 0 [], Asj (At3 b p f c w r n A l) l.length 0 []) := by
 have hs1 := o.some1
 exact Amk o l.length 0 Ba [] [] (by omega) (by have := Aq; omega) (by simp) rfl
theorem Bjq : Xk b p = some (Asj (At3 b p f c w r n A l) l.length 0 [], 0) := by
 have hs1 := o.some1
 rw [Xk, Acj, o.prog, Aa]
 simp only
 rw [if_neg (by rw [Am]; simp), Alj o.shape o.fit, Aa]
 simp only
 rw [if_neg (by rw [Am]; simp)]
 exact Bdb o l.length 0 Ba [] (by omega) (by have := Aq; omega) (by simp)
theorem Ay2 : Ho b p = some (Asj (At3 b p f c w r n A l) l.length 0 [], 0) := by
 rw [Ho, Bct o.pass o.ref, Aa]
 simp only
 rw [if_neg (by rw [Am]; simp), Bbu o, Aa]
end
theorem Bgy {b p : List UInt8} {e : Int} (he : e ≠ 0) (h : seekto_Open b p = some (Asp e)) : Xk b p = some ([], e) := by
 rw [Xk, Acj, h, Aa, Asp]
 simp only
 rw [if_pos (by rw [Am]; simpa using he), Kn, Agi, if_pos (by rw [Am]; simpa using he)]
theorem Aro {b p : List UInt8} {e : Int} (he : e ≠ 0) (h : Gn b p = some (Asp e)) : Ho b p = some ([], e) := by
 rw [Ho, h, Aa, Asp]
 simp only
 rw [if_pos (by rw [Am]; simpa using he)]
theorem Bjj (b p : List UInt8) (hb : b.length ≤ 100100) (hp : p.length ≤ 1000) : ∃ y : List Int × Int, Xk b p = some y ∧ Ho b p = some y ∧ y.1.length ≤ 1000 := by
 by_cases h64 : 64 < p.length
 ·obtain ⟨h1, h2⟩ := Bih b p h64 hp
  exact ⟨_, Bgy (by omega) h1, Aro (by omega) h2, by simp⟩
 ·rcases Boy b p hb (by omega) with ⟨e, he, h1, h2⟩ | ⟨f, c, w, r, n, A, l, o⟩
  ·exact ⟨_, Bgy he h1, Aro he (Bct (by omega) h2), by simp⟩
  ·refine ⟨_, Bjq o, Ay2 o, ?_⟩
   have h1 := Bbg (At3 b p f c w r n A l) l.length 0 []
   have := o.some1
   simp only [List.length_nil] at h1 ⊢; omega
theorem law_PolicyBads (b p : List UInt8) : Oe b p = some true := by
 rw [Oe, Zp, Aa]
 by_cases h : (((Hw (Ac b) (5000 : Int)) && (Dm (Ac b) (12000 : Int))) || (Hw (Ac b) (12100 : Int)) || (Hw (Ac p) (100 : Int))) = true
 ·rw [if_pos h]
 ·have hb : b.length ≤ 12100 ∧ p.length ≤ 100 := by
   simp [Bc, Af, Ac] at h; omega
  obtain ⟨y, h1, h2, h3⟩ := Bjj b p (by omega) (by omega)
  rw [if_neg h, h1, h2]
  obtain ⟨y1, y2⟩ := y
  simp only [Aa]
  rw [Bjw y1 (by simp only at h3; omega), Aa, Ca]
  simp
end Go.Pl
