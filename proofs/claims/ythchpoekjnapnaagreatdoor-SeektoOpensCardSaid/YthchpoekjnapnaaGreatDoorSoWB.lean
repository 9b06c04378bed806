/- A part of the proof of a statement of this seat (see the text that ends in Proof): LwSeek, LwOpen, LwFrame. No conditions of its own. -/
import Derived.Test.YthchpoekjnapnaaGreatDoorSoWA
set_option linter.unusedVariables false
set_option linter.unusedSimpArgs false
namespace Go.Pl
open Go Go.Lv
def okL : List Int → Int → Bool
 | [], _ => true
 | x :: l, left => decide (5 ≤ x ∧ x ≤ left) && okL l (left - x)
theorem Bik : ∀ l : List Int, (∀ x ∈ l, 5 ≤ x) → 0 ≤ l.sum
 | [], _ => by simp
 | x :: l, h => by
  have h1 := h x List.mem_cons_self
  have h2 := Bik l fun y hy => h y (List.mem_cons_of_mem _ hy)
  rw [List.sum_cons]; omega
theorem Aq9 : ∀ (l : List Int) (left : Int), 0 ≤ left → (okL l left = true ↔ (∀ x ∈ l, 5 ≤ x) ∧ l.sum ≤ left)
 | [], left, h => by simp [okL]; exact h
 | x :: l, left, h => by
  rw [okL, Bool.and_eq_true, decide_eq_true_eq, List.sum_cons]
  by_cases hx : 5 ≤ x ∧ x ≤ left
  ·rw [Aq9 l (left - x) (by omega)]
   constructor
   ·rintro ⟨_, h1, h2⟩
    exact ⟨fun y hy => (List.mem_cons.1 hy).elim (fun e => e ▸ hx.1) (h1 y), by omega⟩
   ·rintro ⟨h1, h2⟩
    exact ⟨hx, fun y hy => h1 y (List.mem_cons_of_mem _ hy), by omega⟩
  ·constructor
   ·rintro ⟨h1, _⟩; exact absurd h1 hx
   ·rintro ⟨h1, h2⟩
    have h3 := h1 x List.mem_cons_self
    have : 0 ≤ l.sum := Bik l fun y hy => h1 y (List.mem_cons_of_mem _ hy)
    omega
theorem Aso (l : List Int) (hl : l.length ≤ 1000) (hx : ∀ x ∈ l, 0 ≤ x ∧ x < 4294967296) : ∀ (j i q : Nat) (left : Int), i + j = l.length → j < q → 0 ≤ left → left ≤ 100000 → Oa l q left (i : Int) = some (if okL (l.drop i) left = true then 0 else 8)
 | 0, i, q + 1, left, hi, _, _, _ => by
  rw [Oa, Zi, if_neg (by rw [Af, Ac]; simp; omega), show i = l.length by omega, List.drop_length]; rfl
 | j + 1, i, q + 1, left, hi, hq, h0, h1 => by
  have hlt : i < l.length := by omega
  have hb := hx l[i] (List.getElem_mem hlt)
  rw [Oa, Zi, if_pos (by rw [Af, Ac]; simp; omega), Dl hlt, Aa, drop_cons hlt]
  by_cases h : 5 ≤ l[i] ∧ l[i] ≤ left
  ·rw [if_neg (by simp [Af, Bc]; omega), Bt (by omega) (by omega), Ag (by omega) (by omega)]
   have ih := Aso l hl hx j (i + 1) q (left - l[i]) (by omega) (by omega) (by omega) (by omega)
   rw [show ((i : Int) + 1) = ((i + 1 : Nat) : Int) by omega, ih]
   simp [okL, h]
  ·rw [if_pos (by simp [Af, Bc]; omega)]
   have : okL (l[i] :: l.drop (i + 1)) left = false := by rw [okL, decide_eq_false h]; rfl
   rw [this]; rfl
def Asc (l : List Int) : Bool := decide (1 ≤ l.length ∧ l.length ≤ 1000) && okL l 100000
theorem Ash (l : List Int) (hl : l.length ≤ 1000) (hx : ∀ x ∈ l, 0 ≤ x ∧ x < 4294967296) : Abo l = some (if Asc l = true then 0 else 8) := by
 rw [Abo, Ad0, Asc]
 by_cases h : 1 ≤ l.length
 ·rw [if_neg (by rw [Cd, Bc, Ac]; simp; constructor; (intro e; subst e; simp at h); omega), Afa]
  have := Aso l hl hx l.length 0 Ba 100000 (by omega) (by have := Ay; omega) (by omega) (by omega)
  rw [List.drop_zero] at this
  rw [decide_eq_true (show 1 ≤ l.length ∧ l.length ≤ 1000 from ⟨h, hl⟩), Bool.true_and]
  exact this
 ·have : l = [] := by
   cases l with
   | nil => rfl
   | cons _ _ => simp at h
  subst this; rfl
theorem Ave (l : List Int) (hl : l.length ≤ 1000) (hx : ∀ x ∈ l, 0 ≤ x ∧ x < 4294967296) : ∀ (j i q : Nat) (s : Int), i + j = l.length → j < q → 0 ≤ s → s ≤ 100000 * (i : Int) → Ew l q s (i : Int) = some (if (∀ x ∈ l.drop i, 5 ≤ x ∧ x ≤ 100000) ∧ s + (l.drop i).sum ≤ 100000 then 0 else 8)
 | 0, i, q + 1, s, hi, _, _, _ => by
  rw [Ew, Jz, if_neg (by rw [Af, Ac]; simp; omega), show i = l.length by omega, List.drop_length, Pd, Yy]
  by_cases h : s ≤ 100000
  ·rw [if_neg (by rw [Bc]; simp; omega), if_pos (by simp; omega)]
  ·rw [if_pos (by rw [Bc]; simp; omega), if_neg (by simp; omega)]
 | j + 1, i, q + 1, s, hi, hq, h0, h1 => by
  have hlt : i < l.length := by omega
  have hb := hx l[i] (List.getElem_mem hlt)
  rw [Ew, Jz, if_pos (by rw [Af, Ac]; simp; omega), Dl hlt, Aa, drop_cons hlt]
  by_cases h5 : l[i] < 5
  ·rw [if_pos (by rw [Af]; simpa using h5), if_neg (fun h => by have := (h.1 l[i] List.mem_cons_self).1; omega)]
  ·rw [if_neg (by rw [Af]; simpa using h5), Aa]
   by_cases h6 : 100000 < l[i]
   ·rw [if_pos (by rw [Bc]; simpa using h6), if_neg (fun h => by have := (h.1 l[i] List.mem_cons_self).2; omega)]
   ·rw [if_neg (by rw [Bc]; simpa using h6), Qr, Zn, Dl hlt, Aa, Ag (by omega) (by omega), Ag (by omega) (by omega)]
    have ih := Ave l hl hx j (i + 1) q (s + l[i]) (by omega) (by omega) (by omega) (by omega)
    rw [show ((i : Int) + 1) = ((i + 1 : Nat) : Int) by omega, ih]
    have e : ((∀ x ∈ l.drop (i + 1), 5 ≤ x ∧ x ≤ 100000) ∧ s + l[i] + (l.drop (i + 1)).sum ≤ 100000) ↔ ((∀ x ∈ l[i] :: l.drop (i + 1), 5 ≤ x ∧ x ≤ 100000) ∧ s + (l[i] :: l.drop (i + 1)).sum ≤ 100000) := by
     rw [List.sum_cons, List.forall_mem_cons, Int.add_assoc]
     constructor
     ·rintro ⟨a, b⟩; exact ⟨⟨by omega, a⟩, b⟩
     ·rintro ⟨⟨_, a⟩, b⟩; exact ⟨a, b⟩
    simp only [e]
theorem Bcr : ∀ {l : List Int}, (∀ x ∈ l, 5 ≤ x) → ∀ x ∈ l, x ≤ l.sum
 | [], _, x, hx => by simp at hx
 | y :: l, h, x, hx => by
  have h1 := h y List.mem_cons_self
  have h2 := Bik l fun z hz => h z (List.mem_cons_of_mem _ hz)
  rw [List.sum_cons]
  rcases List.mem_cons.1 hx with rfl | hx
  ·omega
  ·have := Bcr (l := l) (fun z hz => h z (List.mem_cons_of_mem _ hz)) x hx
   omega
theorem Bgb (l : List Int) (hl : l.length ≤ 1000) (hx : ∀ x ∈ l, 0 ≤ x ∧ x < 4294967296) : Ot l = some (if Asc l = true then 0 else 8) := by
 rw [Ot, Qy, Asc]
 by_cases h : 1 ≤ l.length
 ·have := Ave l hl hx l.length 0 Ba 0 (by omega) (by have := Ay; omega) (by omega) (by omega)
  rw [if_neg (by rw [Af, Bc, Ac]; simp; omega), Qn]
  refine Eq.trans this ?_
  rw [List.drop_zero, decide_eq_true (show 1 ≤ l.length ∧ l.length ≤ 1000 from ⟨h, hl⟩), Bool.true_and]
  have e : ((∀ x ∈ l, 5 ≤ x ∧ x ≤ 100000) ∧ 0 + l.sum ≤ 100000) ↔ okL l 100000 = true := by
   rw [Aq9 l 100000 (by omega), Int.zero_add]
   constructor
   ·rintro ⟨a, b⟩; exact ⟨fun x hx => (a x hx).1, b⟩
   ·rintro ⟨a, b⟩; exact ⟨fun x hx => ⟨a x hx, Int.le_trans (Bcr a x hx) b⟩, b⟩
  simp only [e]
 ·have : l = [] := by
   cases l with
   | nil => rfl
   | cons _ _ => simp at h
  subst this; rfl
def Ag1 (b : List UInt8) (n : Nat) : List Int := (List.range n).map fun i => (Eb (part b (4 * i) 4) : Int)
theorem Aca (b : List UInt8) (n : Nat) : (Ag1 b n).length = n := by simp [Ag1]
theorem Av9 (b : List UInt8) (n : Nat) : Ag1 b (n + 1) = Ag1 b n ++ [(Eb (part b (4 * n) 4) : Int)] := by simp [Ag1, List.range_succ]
theorem Bep (b : List UInt8) (n : Nat) (h : 4 * n ≤ b.length) : ∀ x ∈ Ag1 b n, 0 ≤ x ∧ x < 4294967296 := by
 intro x hx
 simp only [Ag1, List.mem_map, List.mem_range] at hx
 obtain ⟨i, hi, rfl⟩ := hx
 have := Bd7 (l := part b (4 * i) 4) (by rw [Cx (by omega)]; omega)
 omega
def Mo (b : List UInt8) (n : Nat) : List Int × Int :=
 if ¬ (1 ≤ n ∧ n ≤ 1000) then ([], 2) else if b.length < 4 * n + 4 then ([], 24) else if (Gd (b.take (4 * n))).toNat ≠ Eb (part b (4 * n) 4) then ([], 22) else
 if Asc (Ag1 b n) = true then (Ag1 b n, 0) else ([], 12)
theorem Bdp {b : List UInt8} {n : Nat} (h : 1 ≤ n ∧ n ≤ 1000) (h2 : ¬ b.length < 4 * n + 4) : Db (Ad (Gd (b.take (4 * n))) : UInt64) (leU (part b (4 * n) 4)) = decide ((Gd (b.take (4 * n))).toNat ≠ Eb (part b (4 * n) 4)) := by
 rw [Adk, Gl, Bool.eq_iff_iff]
 simp only [bne_iff_ne, ne_eq, decide_eq_true_eq]
 rw [← UInt64.toNat_inj, Af3 (by have := (Gd (b.take (4 * n))).toNat_lt; omega), Af1 (by rw [Cx (by omega)]; omega)]
section
variable {b : List UInt8} {n : Nat}
theorem ss1 (h : ¬ (1 ≤ n ∧ n ≤ 1000)) : Mo b n = ([], 2) := by rw [Mo, if_pos h]
variable (h : 1 ≤ n ∧ n ≤ 1000)
include h
theorem ss2 (h2 : b.length < 4 * n + 4) : Mo b n = ([], 24) := by rw [Mo, if_neg (fun e => e h), if_pos h2]
variable (h2 : ¬ b.length < 4 * n + 4)
include h2
theorem ss3 (h3 : (Gd (b.take (4 * n))).toNat ≠ Eb (part b (4 * n) 4)) : Mo b n = ([], 22) := by rw [Mo, if_neg (fun e => e h), if_neg h2, if_pos h3]
theorem ss4 (h3 : (Gd (b.take (4 * n))).toNat = Eb (part b (4 * n) 4)) : Mo b n = if Asc (Ag1 b n) = true then (Ag1 b n, 0) else ([], 12) := by rw [Mo, if_neg (fun e => e h), if_neg h2, if_neg (fun e => e h3)]
end
theorem Av5 (b : List UInt8) (l8 : List Int) (n : Nat) (hn : n ≤ 1000) (h8 : l8.length = n) (hb : 4 * n + 4 ≤ b.length) (hb2 : b.length < 4611686018427387904) : ∀ (j i q : Nat), i + j = n → j < q → Qi b l8 q (i : Int) (Ag1 b i ++ List.replicate j 0) = Aa7 (Ag1 b n)
 | 0, i, q + 1, hi, _ => by
  obtain rfl : i = n := by omega
  rw [Qi, Abc, if_neg (by rw [Af, Ac]; simp; omega)]; simp
 | j + 1, i, q + 1, hi, hq => by
  have hlen : (Ag1 b i ++ List.replicate (j + 1) 0).length = i + (j + 1) := by simp [Aca]
  have ha := Awa b (4 * i) 4 (by omega) (by omega) (by omega) hb2
  rw [Qi, Abc, if_pos (by rw [Af, Ac]; simp; omega), Ih (by omega) (by omega), show (4 : Int) * (i : Int) = ((4 * i : Nat) : Int) by omega, show (4 : Int) = ((4 : Nat) : Int) from rfl, ha, Aa]
  simp only
  rw [Dl (by rw [hlen]; omega), Aa, Us _ (by rw [hlen]; omega), Aa, Aa8 (by rw [Cx (by omega)]; omega), Ag (by omega) (by omega), List.replicate_succ, Alz (Aca _ _)]
  have ih := Av5 b l8 n hn h8 hb hb2 j (i + 1) q (by omega) (by omega)
  rw [Av9] at ih
  rw [show ((i : Int) + 1) = ((i + 1 : Nat) : Int) by omega, ← ih]
  simp
theorem Bfg (b : List UInt8) (n : Nat) (hb : b.length ≤ 100100) : Air b (n : Int) = some (Mo b n) := by
 rw [Air, Agw]
 by_cases h : 1 ≤ n ∧ n ≤ 1000
 ·rw [if_neg (by simp [Af, Bc]; omega), Ih (by omega) (by omega), Ag (by omega) (by omega)]
  by_cases h2 : b.length < 4 * n + 4
  ·rw [if_pos (by rw [Af, Ac]; simp; omega), ss2 h h2]
  ·have ha : Ahy b (4 * (n : Int)) 4 = some (leU (part b (4 * n) 4), 0) := by
    rw [show (4 : Int) * (n : Int) = ((4 * n : Nat) : Int) by omega]
    exact Awa b (4 * n) 4 (by omega) (by omega) (by omega) (by omega)
   rw [if_neg (by rw [Af, Ac]; simp; omega), ha, Aa]
   simp only
   rw [Ls (by omega) (by omega), Aa, show (4 * (n : Int)).toNat = 4 * n by omega, Bco _ (by simp; omega), Aa]
   simp only
   rw [Bdp h h2]
   by_cases h3 : (Gd (b.take (4 * n))).toNat = Eb (part b (4 * n) 4)
   ·have hlp := Av5 b (List.replicate n 0) n (by omega) (by simp) (by omega) (by omega) n 0 Ba (by omega) (by have := Ay; omega)
    rw [if_neg (by simpa using h3), Ar0 (by omega) (by omega), Aa, Cq (by rw [Cd]; simp), Aa, Agi, Int.toNat_natCast]
    refine Eq.trans (hlp) ?_
    rw [Aa7, Amq, Ash _ (by rw [Aca]; omega) (Bep b n (by omega)), Aa, ss4 h h2 h3]
    cases Asc (Ag1 b n) <;> rfl
   ·rw [if_pos (by simpa using h3), ss3 h h2 h3]
 ·rw [if_pos (by simp [Af, Bc]; omega), ss1 h]
theorem Aml (b : List UInt8) (n : Nat) (hn : n ≤ 1000) (hb : 4 * n + 4 ≤ b.length) (hb2 : b.length < 4611686018427387904) : ∀ (j i q : Nat), i + j = n → j < q → Fq b (n : Int) q (i : Int) (Ag1 b i) = Ld (Ag1 b n)
 | 0, i, q + 1, hi, _ => by
  obtain rfl : i = n := by omega
  rw [Fq, Ll, if_neg (by rw [Af]; simp)]
 | j + 1, i, q + 1, hi, hq => by
  have hc : Cv b ((4 : Int) * (i : Int)) ((4 : Int) * (i : Int) + 4) = some (part b (4 * i) 4) := by
   rw [show (4 : Int) * (i : Int) = ((4 * i : Nat) : Int) by omega]
   exact Ln (4 * i) 4 (by omega)
  rw [Fq, Ll, if_pos (by rw [Af]; simp; omega), Ih (by omega) (by omega), Ag (by omega) (by omega), hc, Aa, Az0 _ (by rw [Cx (by omega)]; omega), Aa, Gp (by rw [Aca]; simp; omega), Aa,
   Aa8 (by rw [Cx (by omega)]; omega), Ag (by omega) (by omega), ← Av9]
  exact Aml b n hn hb hb2 j (i + 1) q (by omega) (by omega)
theorem Bht (b : List UInt8) (n : Nat) (hb : b.length ≤ 100100) : Rs b (n : Int) = some (Mo b n) := by
 rw [Rs, So]
 by_cases h : 1 ≤ n ∧ n ≤ 1000
 ·rw [if_neg (by simp [Af, Bc]; omega), Ih (by omega) (by omega), Ag (by omega) (by omega)]
  by_cases h2 : b.length < 4 * n + 4
  ·rw [if_pos (by rw [Af, Ac]; simp; omega), ss2 h h2]
  ·have hc : Cv b ((4 : Int) * (n : Int)) ((4 : Int) * (n : Int) + 4) = some (part b (4 * n) 4) := by
    rw [show (4 : Int) * (n : Int) = ((4 * n : Nat) : Int) by omega]
    exact Ln (4 * n) 4 (by omega)
   have hs : Db (leU (part b (4 * n) 4)) (Ad (Gd (b.take (4 * n))) : UInt64) = decide ((Gd (b.take (4 * n))).toNat ≠ Eb (part b (4 * n) 4)) := by
    rw [← Bdp h h2, Adk, Adk, Bool.eq_iff_iff]; simp only [bne_iff_ne, ne_eq]; exact not_congr eq_comm
   rw [if_neg (by rw [Af, Ac]; simp; omega), hc, Aa, Ls (by omega) (by omega), Aa, show (4 * (n : Int)).toNat = 4 * n by omega, Az0 _ (by rw [Cx (by omega)]; omega), Aa, Bke _ (by simp; omega), Aa, hs]
   by_cases h3 : (Gd (b.take (4 * n))).toNat = Eb (part b (4 * n) 4)
   ·have hlp := Aml b n (by omega) (by omega) (by omega) n 0 Ba (by omega) (by have := Ay; omega)
    rw [if_neg (by simpa using h3), Tu, Sp, Sk]
    refine Eq.trans hlp ?_
    rw [Ld, Abn, Bgb _ (by rw [Aca]; omega) (Bep b n (by omega)), Aa, ss4 h h2 h3]
    cases Asc (Ag1 b n) <;> rfl
   ·rw [if_pos (by simpa using h3), ss3 h h2 h3]
 ·rw [if_pos (by simp [Af, Bc]; omega), ss1 h]
theorem Atd {b : List UInt8} {n : Nat} (h : (Mo b n).2 = 0) : Mo b n = (Ag1 b n, 0) ∧ 1 ≤ n ∧ n ≤ 1000 ∧ 4 * n + 4 ≤ b.length ∧ (∀ x ∈ Ag1 b n, 5 ≤ x) ∧ (Ag1 b n).sum ≤ 100000 := by
 unfold Mo at h ⊢
 split at h; · simp at h
 rename_i c1; rw [if_neg c1]
 split at h; · simp at h
 rename_i c2; rw [if_neg c2]
 split at h; · simp at h
 rename_i c3; rw [if_neg c3]
 split at h
 ·rename_i c4
  rw [if_pos c4]
  have c4' := c4
  rw [Asc, Bool.and_eq_true, Aq9 _ _ (by omega)] at c4'
  exact ⟨rfl, by omega, by omega, by omega, c4'.2.1, c4'.2.2⟩
 ·simp at h
end Go.Pl
set_option linter.unusedVariables false
set_option linter.unusedSimpArgs false
namespace Go.Pl
open Go Go.Lv
def hdr (b : List UInt8) : List UInt8 := b.drop (frontS b).1.toNat
abbrev Op8 := Int × Int × Int × Int × Int × Int × (List Int) × Int
def Aox (e : Int) : Op8 := (0, 0, 0, 0, 0, 0, [], e)
theorem Bhb (A K : Nat) (h : A ≤ 200000) (hk : K ≤ 1000) : Ae (Ae (A : Int) (Bp 4 (K : Int))) 4 = ((A + 4 * K + 4 : Nat) : Int) := by
 rw [Ih (by omega) (by omega), Ag (a := (A : Int)) (by omega) (by omega), Ag (by omega) (by omega)]; omega
theorem Bf7 {f c w r n : Nat} (h1 : shapeB f c w r n = true) (h2 : fitB c r n = true) (b : List UInt8) (hb : b.length ≤ 100100) (A : Nat) (hA : A ≤ b.length) :
  Tr b (f : Int) (c : Int) (w : Int) (r : Int) (n : Int) (A : Int) =
   some (if (Mo (b.drop A) (framesL (longN r) n).length).2 ≠ 0 then Aox (Mo (b.drop A) (framesL (longN r) n).length).2 else ((f : Int), (c : Int), (w : Int), (r : Int), (n : Int), ((A + 4 * (framesL (longN r) n).length + 4 : Nat) : Int), (Mo (b.drop A) (framesL (longN r) n).length).1, 0)) := by
 rw [Tr, Akm, Apu h1 h2, Aa]
 simp only
 rw [if_neg (by rw [As]; simp), Aa1 (by omega) (by omega), Aa, Ac, show (A : Int).toNat = A from rfl, Bfg _ _ (by simp; omega), Aa]
 by_cases h : (Mo (b.drop A) (framesL (longN r) n).length).2 ≠ 0
 ·rw [if_pos h, if_pos (by rw [As]; simpa using h)]; rfl
 ·have h0 : (Mo (b.drop A) (framesL (longN r) n).length).2 = 0 := by simpa using h
  obtain ⟨g1, g2, g3, g4, g5, g6⟩ := Atd h0
  have gl : (Mo (b.drop A) (framesL (longN r) n).length).1.length = (framesL (longN r) n).length := by rw [g1]; exact Aca _ _
  rw [if_neg h, if_neg (by rw [As]; simpa using h), Ac, gl, Bhb _ _ (by omega) (by omega)]
theorem Bhp {f c w r n : Nat} (h1 : shapeB f c w r n = true) (h2 : fitB c r n = true) (b : List UInt8) (hb : b.length ≤ 100100) (A : Nat) (hA : A ≤ b.length) :
  Gb b (f : Int) (c : Int) (w : Int) (r : Int) (n : Int) (A : Int) =
   some (if (Mo (b.drop A) (framesL (longN r) n).length).2 ≠ 0 then Aox (Mo (b.drop A) (framesL (longN r) n).length).2 else ((f : Int), (c : Int), (w : Int), (r : Int), (n : Int), ((A + 4 * (framesL (longN r) n).length + 4 : Nat) : Int), (Mo (b.drop A) (framesL (longN r) n).length).1, 0)) := by
 have hs : (1 ≤ r ∧ r ≤ 1048576) ∧ 1 ≤ n ∧ 1 ≤ c := by
  simp only [shapeB, decide_eq_true_eq] at h1; omega
 have hf : n ≤ 4000 := by
  simp only [fitB, decide_eq_true_eq] at h2
  have := Nat.div_le_self 4000 c
  omega
 rw [Gb, Pm, Aa1 (by omega) (by omega), Aa, Aui hs.1.2 hs.2.1 hf, Aa, Ac, show (A : Int).toNat = A from rfl, Bht _ _ (by simp; omega), Aa]
 simp only
 rw [Pn, Xx]
 by_cases h : (Mo (b.drop A) (framesL (longN r) n).length).2 ≠ 0
 ·rw [if_pos h, if_pos (by rw [As]; simpa using h)]; rfl
 ·have h0 : (Mo (b.drop A) (framesL (longN r) n).length).2 = 0 := by simpa using h
  obtain ⟨g1, g2, g3, g4, g5, g6⟩ := Atd h0
  have gl : (Mo (b.drop A) (framesL (longN r) n).length).1.length = (framesL (longN r) n).length := by rw [g1]; exact Aca _ _
  rw [if_neg h, if_neg (by rw [As]; simpa using h), Ac, gl, Bhb _ _ (by omega) (by omega)]
structure Opn (b p : List UInt8) (f c w r n A : Nat) (l : List Int) : Prop where
 prog : seekto_Open b p = some ((f : Int), (c : Int), (w : Int), (r : Int), (n : Int), (A : Int), l, 0)
 ref : cadenzaref40_Opened b p = some ((f : Int), (c : Int), (w : Int), (r : Int), (n : Int), (A : Int), l, 0)
 pass : p.length ≤ 64
 file : b.length ≤ 100000
 shape : shapeB f c w r n = true
 fit : fitB c r n = true
 len : l.length = (framesL (longN r) n).length
 some1 : 1 ≤ l.length ∧ l.length ≤ 1000
 five : ∀ x ∈ l, 5 ≤ x
 sum : l.sum ≤ 100000
 at' : A ≤ b.length
 tag : (frontS b).2 = 0
 pos : A = (frontS b).1.toNat + 22 + (if f = 2 then 8 else 0) + 4 * l.length + 4
theorem Bd2 (b p : List UInt8) (hb : b.length ≤ 100100) (hp : p.length ≤ 64) :
  (∃ e : Int, e ≠ 0 ∧ seekto_Open b p = some (Aox e) ∧ cadenzaref40_Opened b p = some (Aox e)) ∨ (∃ f c w r n A l, Opn b p f c w r n A l) := by
 by_cases h1 : 100000 < b.length
 ·refine .inl ⟨4, by omega, ?_, ?_⟩
  ·rw [seekto_Open, Tb, if_neg (by rw [Bc, Ac]; simp; omega), if_pos (by rw [Bc, Ac]; simp; omega)]; rfl
  ·rw [cadenzaref40_Opened, Iv, if_pos (by rw [Bc, Ac]; simp; omega)]; rfl
 have hP : seekto_Open b p = seekto_Open b p := rfl
 have hR : cadenzaref40_Opened b p = cadenzaref40_Opened b p := rfl
 conv at hP => rhs; rw [seekto_Open, Tb, if_neg (by rw [Bc, Ac]; simp; omega), if_neg (by rw [Bc, Ac]; simp; omega), Ar7 b (by omega), Aa]
 conv at hR => rhs; rw [cadenzaref40_Opened, Iv, if_neg (by rw [Bc, Ac]; simp; omega), Axt b (by omega), Aa]
 by_cases h2 : (frontS b).2 = 0
 ·obtain ⟨p0, p1, p2⟩ := Be5 h2
  have hc := Aa1 (l := b) p0 p1
  simp only [h2] at hP hR
  rw [if_neg (by rw [As]; simp), hc, Aa, show b.drop (frontS b).1.toNat = hdr b from rfl, Bfj _ (by simp [hdr]; omega), Aa] at hP
  rw [if_neg (by rw [As]; simp), hc, Aa, show b.drop (frontS b).1.toNat = hdr b from rfl, Bhq _ (by simp [hdr]; omega), Aa] at hR
  by_cases h3 : (Zk (hdr b)).2.2.2.2.2 = 0
  ·obtain ⟨g1, g2, g3, g4⟩ := Bjx h3
   have hlen : (hdr b).length = b.length - (frontS b).1.toNat := by simp [hdr]
   generalize hF : (frontS b).1.toNat = F at *
   have hF' : (frontS b).1 = (F : Int) := by omega
   rw [g1, hF'] at hP hR
   simp only at hP hR
   generalize f0 (hdr b) = f at *
   generalize f1 (hdr b) = c at *
   generalize f2 (hdr b) = w at *
   generalize f3 (hdr b) = r at *
   generalize f4 (hdr b) = n at *
   have t22 : Ae (F : Int) 22 = ((F + 22 : Nat) : Int) := by rw [Ag (by omega) (by omega)]; omega
   have t30 : Ae ((F + 22 : Nat) : Int) 8 = ((F + 30 : Nat) : Int) := by rw [Ag (by omega) (by omega)]; omega
   have hf12 : f = 1 ∨ f = 2 := by simp only [shapeB, decide_eq_true_eq] at g3; omega
   rw [if_neg (by rw [As]; simp), t22, t30] at hP hR
   have hend : ∀ A : Nat, A ≤ b.length → A = F + 22 + (if f = 2 then 8 else 0) → seekto_Open b p = Tr b (f : Int) (c : Int) (w : Int) (r : Int) (n : Int) (A : Int) → cadenzaref40_Opened b p = Gb b (f : Int) (c : Int) (w : Int) (r : Int) (n : Int) (A : Int) →
     (∃ e : Int, e ≠ 0 ∧ seekto_Open b p = some (Aox e) ∧ cadenzaref40_Opened b p = some (Aox e)) ∨ (∃ f c w r n A l, Opn b p f c w r n A l) := by
    intro A hA hA2 e1 e2
    rw [Bf7 g3 g4 b hb A hA] at e1
    rw [Bhp g3 g4 b hb A hA] at e2
    by_cases h : (Mo (b.drop A) (framesL (longN r) n).length).2 ≠ 0
    ·rw [if_pos h] at e1 e2
     exact .inl ⟨_, h, e1, e2⟩
    ·have h0 : (Mo (b.drop A) (framesL (longN r) n).length).2 = 0 := by simpa using h
     obtain ⟨k1, k2, k3, k4, k5, k6⟩ := Atd h0
     have gl : (Mo (b.drop A) (framesL (longN r) n).length).1.length = (framesL (longN r) n).length := by rw [k1]; exact Aca _ _
     rw [if_neg h] at e1 e2
     rw [List.length_drop] at k4
     refine .inr ⟨f, c, w, r, n, _, _, ⟨e1, e2, hp, by omega, g3, g4, gl, by omega, by rw [k1]; exact k5, by rw [k1]; exact k6, by omega, h2, by rw [gl, hF, ← hA2]⟩⟩
   by_cases hpass : ((p == ([] : List UInt8)) != (geq (f : Int) (1 : Int))) = true
   ·rw [if_pos hpass] at hP hR
    exact .inl ⟨26, by omega, hP, hR⟩
   ·rw [if_neg hpass] at hP hR
    have hpf : (p = [] ↔ f = 1) := by
     rw [Cd] at hpass
     have h5 : (p == ([] : List UInt8)) = ((f : Int) == 1) := by simpa using hpass
     have h6 : (p == ([] : List UInt8)) = true ↔ ((f : Int) == 1) = true := by rw [h5]
     rw [beq_iff_eq, beq_iff_eq] at h6
     rw [h6]; omega
    by_cases h5 : f = 2
    ·have hpne : p ≠ [] := fun e => by have := hpf.1 e; omega
     have h64 : (p != ([] : List UInt8)) = true := by simpa using hpne
     rw [if_pos h64] at hP
     rw [if_pos (by rw [Cd, h5]; rfl), Bt (by rw [Ac]; omega) (by rw [Ac]; omega)] at hR
     by_cases h6 : b.length < F + 30
     ·rw [if_pos (by rw [Af, Ac]; simp; omega)] at hP hR
      exact .inl ⟨24, by omega, hP, hR⟩
     ·have hseg : ((b.take (F + 30)).drop (F + 22)).length = 8 := by simp; omega
      rw [if_neg (by rw [Af, Ac]; simp; omega), Ad8 (by omega) (by omega) (by omega), Aa] at hP hR
      rw [Aiz, Bgy p hp, Aa] at hP
      rw [Bgt p hp, Aa] at hR
      simp only at hP
      rw [if_neg (by rw [As, As, Ac, Ac, Mx, show ((F + 30 : Nat) : Int).toNat = F + 30 from rfl, show ((F + 22 : Nat) : Int).toNat = F + 22 from rfl, hseg]; simp), Jf, Aa, Aa] at hP
      simp only at hP
      rw [if_neg (by rw [As]; simp)] at hP
      generalize (b.take ((F + 30 : Nat) : Int).toNat).drop ((F + 22 : Nat) : Int).toNat = seg at *
      by_cases h7 : seg = leB (Aen p).toNat 8
      ·rw [if_neg (by simp [h7])] at hP
       rw [if_neg (by simp [h7])] at hR
       exact hend (F + 30) (by omega) (by rw [if_pos h5]) hP hR
      ·rw [if_pos (by simpa using h7)] at hP
       rw [if_pos (by simpa using h7)] at hR
       exact .inl ⟨26, by omega, hP, hR⟩
    ·have hpe : p = [] := hpf.2 (by omega)
     rw [if_neg (by rw [hpe]; simp)] at hP
     rw [if_neg (by rw [Cd]; simp; omega)] at hR
     exact hend (F + 22) (by omega) (by rw [if_neg h5]) hP hR
  ·generalize Zk (hdr b) = v at *
   obtain ⟨v1, v2, v3, v4, v5, v6⟩ := v
   simp only at h3 hP hR
   rw [if_pos (by rw [As]; simpa using h3)] at hP hR
   exact .inl ⟨v6, h3, hP, hR⟩
 ·generalize frontS b = v at *
  obtain ⟨v, e⟩ := v
  simp only at h2 hP hR
  rw [if_pos (by rw [As]; simpa using h2)] at hP hR
  exact .inl ⟨e, h2, hP, hR⟩
end Go.Pl
set_option linter.unusedVariables false
set_option linter.unusedSimpArgs false
namespace Go.Pl
open Go Go.Lv
theorem Bft (l : List Int) (i : Nat) : (l.take i).sum + (l.drop i).sum = l.sum := by
 conv => rhs; rw [← List.take_append_drop i l, List.sum_append]
theorem Aax {l : List Int} (h5 : ∀ x ∈ l, 5 ≤ x) (i : Nat) : 0 ≤ (l.take i).sum ∧ (l.take i).sum ≤ l.sum := by
 have h1 := Bik (l.take i) fun x hx => h5 x (List.mem_of_mem_take hx)
 have h2 := Bik (l.drop i) fun x hx => h5 x (List.mem_of_mem_drop hx)
 have := Bft l i
 omega
theorem Agb {l : List Int} {i : Nat} (h : i < l.length) : (l.take (i + 1)).sum = (l.take i).sum + l[i] := by
 rw [Aho h, List.sum_append]; simp
def Aqv (l : List Int) (n : Nat) : List Int := (List.range n).map fun i => (l.take i).sum
theorem Bax (l : List Int) (n : Nat) : (Aqv l n).length = n := by simp [Aqv]
theorem Bfn (l : List Int) (n : Nat) : Aqv l (n + 1) = Aqv l n ++ [(l.take n).sum] := by simp [Aqv, List.range_succ]
theorem Ate (l : List Int) {n i : Nat} (h : i < n) : Aj (Aqv l n) (i : Int) = some ((l.take i).sum) := by
 rw [Dl (by rw [Bax]; exact h)]; simp [Aqv]
section
variable {l : List Int} (hl : l.length ≤ 1000) (h5 : ∀ x ∈ l, 5 ≤ x) (hs : l.sum ≤ 100000)
include hl h5 hs
theorem Av7 : ∀ (j i q : Nat), i + j = l.length → j < q → Jj l q (i : Int) ((l.take i).sum) (Aqv l (i + 1)) = some (Aqv l (l.length + 1), 0)
 | 0, i, q + 1, hi, _ => by
  rw [Jj, Uh, if_neg (by rw [Af, Ac]; simp; omega), show i = l.length by omega]; rfl
 | j + 1, i, q + 1, hi, hq => by
  have hlt : i < l.length := by omega
  have ih := Av7 j (i + 1) q (by omega) (by omega)
  have b1 := Aax h5 i
  have b2 := Aax h5 (i + 1)
  have e := Agb hlt
  rw [Bfn l (i + 1), e] at ih
  rw [Jj, Uh, if_pos (by rw [Af, Ac]; simp; omega), Dl hlt, Aa, Ag (by omega) (by omega), Gp (by simp [Bax]; omega), Aa, Aaw, Ahl, Ag (by omega) (by omega), Ag (by omega) (by omega)]
  exact ih
theorem Bk4 (h1 : 1 ≤ l.length) : Aba l = some (Aqv l (l.length + 1), 0) := by
 have h := Av7 hl h5 hs l.length 0 Ba (by omega) (by have := Ay; omega)
 have hx : ∀ x ∈ l, 0 ≤ x ∧ x < 4294967296 := fun x hx => by
  have := Bcr h5 x hx
  have := h5 x hx
  omega
 have ht : Asc l = true := by
  rw [Asc, Bool.and_eq_true]
  exact ⟨by simpa using ⟨h1, hl⟩, (Aq9 l 100000 (by omega)).2 ⟨h5, hs⟩⟩
 rw [Aba, Aay, Ash l hl hx, Aa, if_pos ht, if_neg (by rw [As]; simp)]
 exact h
theorem Aus (f c w r n A : Int) (hA : 0 ≤ A) (hA2 : A ≤ 200000) (k : Nat) (hk : k ≤ l.length) : ∀ (j i q : Nat), i + j = k → j < q → Fg (k : Int) f c w r n A l q (A + (l.take i).sum) (i : Int) = some (A + (l.take k).sum)
 | 0, i, q + 1, hi, _ => by
  rw [Fg, Ko, if_neg (by rw [Af]; simp; omega), show i = k by omega]; rfl
 | j + 1, i, q + 1, hi, hq => by
  have hlt : i < l.length := by omega
  have ih := Aus f c w r n A hA hA2 k hk j (i + 1) q (by omega) (by omega)
  have b1 := Aax h5 i
  have b2 := Aax h5 (i + 1)
  have e := Agb hlt
  rw [e, ← Int.add_assoc] at ih
  rw [Fg, Ko, if_pos (by rw [Af]; simp; omega), Dl hlt, Aa, Ag (by omega) (by omega), Ag (by omega) (by omega)]
  exact ih
theorem Bgn (f c w r n A : Int) (hA : 0 ≤ A) (hA2 : A ≤ 200000) (k : Nat) (hk : k ≤ l.length) : Pf f c w r n A l (k : Int) = some (A + (l.take k).sum) := by
 have h := Aus hl h5 hs f c w r n A hA hA2 k hk k 0 Ba (by omega) (by have := Ay; omega)
 rw [List.take_zero, List.sum_nil, Int.add_zero] at h
 exact h
end
theorem Bb7 {g n : Nat} (hg : 1 ≤ g) (hn : 1 ≤ n) {x : Int} (h : x ∈ framesL g n) : ∃ m : Nat, x = m ∧ 1 ≤ m ∧ m ≤ n := by
 have hmul := Nat.div_mul_le_self (n - 1) g
 rw [framesL, List.mem_append] at h
 rcases h with h | h
 ·rw [List.mem_replicate] at h
  have h1 : 1 ≤ (n - 1) / g := Nat.pos_of_ne_zero h.1
  have := Nat.mul_le_mul_right g h1
  exact ⟨g, h.2, hg, by omega⟩
 ·rw [List.mem_singleton] at h
  exact ⟨_, h, by omega, by omega⟩
theorem Bjr {f c w r n : Nat} (h : shapeB f c w r n = true) : (1 ≤ c ∧ c ≤ 6) ∧ Fx (w : Int) ∧ (1 ≤ r ∧ r ≤ 1048576) ∧ 1 ≤ n ∧ (f = 1 ∨ f = 2) := by
 simp only [shapeB, decide_eq_true_eq] at h
 refine ⟨h.2.1, ?_, h.2.2.2.1, h.2.2.2.2, h.1⟩
 rcases h.2.2.1 with rfl | rfl | rfl
 ·exact .inl rfl
 ·exact .inr (.inl rfl)
 ·exact .inr (.inr rfl)
theorem Bgo {b p : List UInt8} {f c w r n A : Nat} {l : List Int} (o : Opn b p f c w r n A l) (k : Nat) (hk : k < l.length) :
  ∃ y : List UInt8 × Int, La (k : Int) (framesL (longN r) n) (f : Int) (c : Int) (w : Int) (r : Int) (n : Int) (A : Int) b (Ah4 p) l (Aqv l (l.length + 1)) = some y ∧
   Oe b p (f : Int) (c : Int) (w : Int) (r : Int) (n : Int) (A : Int) l (k : Int) = some y := by
 obtain ⟨hc, hw, hr, hn, _⟩ := Bjr o.shape
 have hfit : n ≤ 4000 / c := by have := o.fit; simp only [fitB, decide_eq_true_eq] at this; exact this.1
 have hn4 : n ≤ 4000 := by have := Nat.div_le_self 4000 c; omega
 have hA := o.at'
 have hfile := o.file
 have hlen := o.len
 have b1 := Aax o.five k
 have b2 := Aax o.five (k + 1)
 have e := Agb hk
 have h5 := o.five l[k] (List.getElem_mem _)
 have hsum := o.sum
 have hs1 := o.some1
 have hkf : k < (framesL (longN r) n).length := by omega
 obtain ⟨m, hm, m1, m2⟩ := Bb7 (Al0 r) hn (List.getElem_mem hkf)
 have e1 : Ae (k : Int) 1 = ((k + 1 : Nat) : Int) := by rw [Ag (by omega) (by omega)]; omega
 rw [La, Vz, if_neg (by rw [As]; simp), if_neg (by simp [Af, Dm, Ac]; omega), e1, Ate l (by omega), Ate l (by omega), Aa, Aa, Aa, Aa, Acv, Acl, Ag (a := (A : Int)) (b := (l.take (k + 1)).sum) (by omega) (by omega), Ag (by omega) (by omega)]
 rw [Oe, Mp, Bgn hs1.2 o.five o.sum _ _ _ _ _ (A : Int) (by omega) (by omega) k (by omega), Aa, Dl hk, Aa, Bt (by rw [Ac]; omega) (by rw [Ac]; omega)]
 by_cases hto : (b.length : Int) < (A : Int) + (l.take (k + 1)).sum
 ·rw [if_pos (by rw [Bc, Ac, decide_eq_true_eq]; omega), if_pos (by rw [Af, Ac, decide_eq_true_eq]; omega)]
  exact ⟨_, rfl, rfl⟩
 ·rw [if_neg (by rw [Bc, Ac, decide_eq_true_eq]; omega), if_neg (by rw [Af, Ac, decide_eq_true_eq]; omega), Bkb p o.pass, Aui hr.2 hn hn4]
  simp only [Aa]
  rw [Ag (a := (A : Int) + (l.take k).sum) (b := l[k]) (by omega) (by omega), Int.add_assoc, ← e, Dl hkf, hm]
  simp only [Aa]
  rw [Ad8 (by omega) (by omega) (by omega), Aa, Aa]
  obtain ⟨x, er, g1, g2, g3⟩ := Az2 (ch := c) (n := m) (t := Ah4 p) ((b.take ((A : Int) + (l.take (k + 1)).sum).toNat).drop ((A : Int) + (l.take k).sum).toNat) hw (Bci p) hc.1 hc.2 m1 (by omega)
  rw [g1, g2, Aa, Aa]
  simp only
  rw [Acj, Acw, Va, Ac0]
  by_cases her : er = 0
  ·obtain ⟨g4, g5⟩ := g3 her
   rw [if_neg (by rw [As]; simpa using her), if_neg (by rw [As]; simpa using her), Bcg hw g5 g4, Be3 hw g5 g4, Aa, Aa]
   exact ⟨_, rfl, rfl⟩
  ·rw [if_pos (by rw [As]; simpa using her), if_pos (by rw [As]; simpa using her)]
   exact ⟨_, rfl, rfl⟩
theorem Ann {b p : List UInt8} (hp : p.length ≤ 64) {y : Op8} (h : cadenzaref40_Opened b p = some y) : Du b p = some y := by
 rw [Du, if_neg (by rw [Bc, Ac]; simp; omega), h, Aa]
theorem Ayr {b p : List UInt8} {f c w r n A : Nat} {l : List Int} (o : Opn b p f c w r n A l) (k : Int) : Pj b p k = La k (framesL (longN r) n) (f : Int) (c : Int) (w : Int) (r : Int) (n : Int) (A : Int) b (Ah4 p) l (Aqv l (l.length + 1)) := by
 have hs1 := o.some1
 rw [Pj, Vs, o.prog, Aa]
 simp only
 rw [if_neg (by rw [As]; simp), Apu o.shape o.fit, Aa]
 simp only
 rw [if_neg (by rw [As]; simp), Bk4 hs1.2 o.five o.sum hs1.1, Aa]
 simp only
 rw [if_neg (by rw [As]; simp), Bgp p o.pass, Aa]
 simp only
 rw [if_neg (by rw [As]; simp), Ac, ← o.len, Ate l (by omega), Aa, Aa]
theorem Awr {b p : List UInt8} {e : Int} (he : e ≠ 0) (h : seekto_Open b p = some (Aox e)) (k : Int) : Pj b p k = some ([], e) := by
 rw [Pj, Vs, h, Aa, Aox]
 simp only
 rw [if_pos (by rw [As]; simpa using he), Acn, Aji, if_pos (by rw [As]; simpa using he)]
theorem Ami {b p : List UInt8} {e : Int} (he : e ≠ 0) (h : Du b p = some (Aox e)) (k : Int) : Fo b p k = some ([], e) := by
 rw [Fo, h, Aa, Aox]
 simp only
 rw [if_pos (by rw [As]; simpa using he)]
theorem Av3 (b p : List UInt8) (hp : 64 < p.length) (hp2 : p.length ≤ 1000) : seekto_Open b p = some (Aox 2) ∧ Du b p = some (Aox 2) := by
 constructor
 ·rw [seekto_Open, Tb, if_pos (by rw [Bc, Ac]; simp; omega)]; rfl
 ·rw [Du, if_pos (by rw [Bc, Ac]; simp; omega)]; rfl
theorem Bcm (b p : List UInt8) (hb : b.length ≤ 100100) (hp : p.length ≤ 1000) (k : Int) : ∃ y, Pj b p k = some y ∧ Fo b p k = some y := by
 by_cases h64 : 64 < p.length
 ·obtain ⟨h1, h2⟩ := Av3 b p h64 hp
  exact ⟨_, Awr (by omega) h1 k, Ami (by omega) h2 k⟩
 ·rcases Bd2 b p hb (by omega) with ⟨e, he, h1, h2⟩ | ⟨f, c, w, r, n, A, l, o⟩
  ·exact ⟨_, Awr he h1 k, Ami he (Ann (by omega) h2) k⟩
  ·have hR : Fo b p k = if ((Dg k (0 : Int)) || (Re k (Ac l))) = true then some ([], 2) else Option.bind (Oe b p (f : Int) (c : Int) (w : Int) (r : Int) (n : Int) (A : Int) l k) fun (x, y) => some (x, y) := by
    rw [Fo, Ann (by omega) o.ref, Aa]
    simp only
    rw [if_neg (by rw [As]; simp)]
   rw [Ayr o k, hR]
   by_cases hk : k < 0 ∨ (l.length : Int) ≤ k
   ·rw [La, Vz, if_neg (by rw [As]; simp), if_pos (by rw [Ac, ← o.len]; simp [Af, Dm]; omega), if_pos (by simp [Af, Dm, Ac]; omega)]
    exact ⟨_, rfl, rfl⟩
   ·obtain ⟨k, rfl⟩ := Int.eq_ofNat_of_zero_le (show 0 ≤ k by omega)
    obtain ⟨y, h1, h2⟩ := Bgo o k (by omega)
    rw [if_neg (by simp [Af, Dm, Ac]; omega), h2, Aa]
    exact ⟨y, h1, rfl⟩
theorem Amr (l : List Int) (hl : l.length ≤ 100000) : ∀ (j i q : Nat), i + j = l.length → j < q → Dq l l q (i : Int) = some true
 | 0, i, q + 1, hi, _ => by
  rw [Dq, Hj, if_neg (by rw [Af, Ac]; simp; omega)]; rfl
 | j + 1, i, q + 1, hi, hq => by
  rw [Dq, Hj, if_pos (by rw [Af, Ac]; simp; omega), Dl (by omega), Aa, Aa, if_neg (by rw [As]; simp), Ag (by omega) (by omega)]
  exact Amr l hl j (i + 1) q (by omega) (by omega)
theorem Bjh (l : List Int) (hl : l.length ≤ 100000) : Kk l l = some true := by
 rw [Kk, Mc, if_neg (by rw [As]; simp)]
 exact Amr l hl l.length 0 Ba (by omega) (by have := Ay; omega)
theorem Bfu (y : Op8) (hl : y.2.2.2.2.2.2.1.length ≤ 100000) : Rw y.1 y.2.1 y.2.2.1 y.2.2.2.1 y.2.2.2.2.1 y.2.2.2.2.2.1 y.2.2.2.2.2.2.1 y.1 y.2.1 y.2.2.1 y.2.2.2.1 y.2.2.2.2.1 y.2.2.2.2.2.1 y.2.2.2.2.2.2.1 = some true := by
 have e : ∀ a : Int, geq a a = true := fun a => by rw [Cd]; simp
 rw [Rw, e, e, e, e, e, e, if_pos (by decide), Bjh _ hl, Aa]
theorem Be7 (b p : List UInt8) (hb : b.length ≤ 100100) (hp : p.length ≤ 1000) : ∃ y : Op8, seekto_Open b p = some y ∧ Du b p = some y ∧ y.2.2.2.2.2.2.1.length ≤ 100000 := by
 by_cases h64 : 64 < p.length
 ·obtain ⟨h1, h2⟩ := Av3 b p h64 hp
  exact ⟨_, h1, h2, by simp [Aox]⟩
 ·rcases Bd2 b p hb (by omega) with ⟨e, he, h1, h2⟩ | ⟨f, c, w, r, n, A, l, o⟩
  ·exact ⟨_, h1, Ann (by omega) h2, by simp [Aox]⟩
  ·exact ⟨_, o.prog, Ann (by omega) o.ref, by have := o.some1; simp only; omega⟩
theorem law_SeektoOpens (b p : List UInt8) (n : Int) : Mh b p n = some true := by
 rw [Mh, Zb, Aa]
 by_cases h : (((Hq (Ac b) (5000 : Int)) && (Dg (Ac b) (12000 : Int))) || (Hq (Ac b) (12100 : Int)) || (Hq (Ac p) (100 : Int))) = true
 ·rw [if_pos h]
 ·have hb : b.length ≤ 12100 ∧ p.length ≤ 100 := by
   simp [Bc, Af, Ac] at h; omega
  obtain ⟨y, h1, h2, h3⟩ := Be7 b p (by omega) (by omega)
  obtain ⟨z, h4, h5⟩ := Bcm b p (by omega) (by omega) n
  have hs := Bfu y h3
  obtain ⟨y1, y2, y3, y4, y5, y6, y7, y8⟩ := y
  obtain ⟨z1, z2⟩ := z
  simp only at hs
  rw [if_neg h, h1, h2, h4, h5]
  simp only [Aa]
  rw [hs, Aa, Cd, Cd]
  simp
end Go.Pl
