/- A part of the proof of a statement of this seat (see the text that ends in Proof): LwSeek, LwOpen, LwFrame, LwBack, LwGot, LwWs, LwGoes, LwPol, LwRt, LwClip, LwPd. No conditions of its own. -/
import Derived.Test.YthchpoekjnapnaaGreatDoorPdWA
set_option linter.unusedVariables false
set_option linter.unusedSimpArgs false
namespace Go.Pl
open Go Go.Lv
def okL : List Int → Int → Bool
 | [], _ => true
 | x :: l, left => decide (5 ≤ x ∧ x ≤ left) && okL l (left - x)
theorem Boo : ∀ l : List Int, (∀ x ∈ l, 5 ≤ x) → 0 ≤ l.sum
 | [], _ => by simp
 | x :: l, h => by
  have h1 := h x List.mem_cons_self
  have h2 := Boo l fun y hy => h y (List.mem_cons_of_mem _ hy)
  rw [List.sum_cons]; omega
theorem Awa : ∀ (l : List Int) (left : Int), 0 ≤ left → (okL l left = true ↔ (∀ x ∈ l, 5 ≤ x) ∧ l.sum ≤ left)
 | [], left, h => by simp [okL]; exact h
 | x :: l, left, h => by
  rw [okL, Bool.and_eq_true, decide_eq_true_eq, List.sum_cons]
  by_cases hx : 5 ≤ x ∧ x ≤ left
  ·rw [Awa l (left - x) (by omega)]
   constructor
   ·rintro ⟨_, h1, h2⟩
    exact ⟨fun y hy => (List.mem_cons.1 hy).elim (fun e => e ▸ hx.1) (h1 y), by omega⟩
   ·rintro ⟨h1, h2⟩
    exact ⟨hx, fun y hy => h1 y (List.mem_cons_of_mem _ hy), by omega⟩
  ·constructor
   ·rintro ⟨h1, _⟩; exact absurd h1 hx
   ·rintro ⟨h1, h2⟩
    have h3 := h1 x List.mem_cons_self
    have : 0 ≤ l.sum := Boo l fun y hy => h1 y (List.mem_cons_of_mem _ hy)
    omega
theorem Ayc (l : List Int) (hl : l.length ≤ 1000) (hx : ∀ x ∈ l, 0 ≤ x ∧ x < 4294967296) : ∀ (j i q : Nat) (left : Int), i + j = l.length → j < q → 0 ≤ left → left ≤ 100000 → Rh l q left (i : Int) = some (if okL (l.drop i) left = true then 0 else 8)
 | 0, i, q + 1, left, hi, _, _, _ => by
  rw [Rh, Aco, if_neg (by rw [Af, Ac]; simp; omega), show i = l.length by omega, List.drop_length]; rfl
 | j + 1, i, q + 1, left, hi, hq, h0, h1 => by
  have hlt : i < l.length := by omega
  have hb := hx l[i] (List.getElem_mem hlt)
  rw [Rh, Aco, if_pos (by rw [Af, Ac]; simp; omega), Cq hlt, Aa, drop_cons hlt]
  by_cases h : 5 ≤ l[i] ∧ l[i] ≤ left
  ·rw [if_neg (by simp [Af, Au]; omega), Bk (by omega) (by omega), Ag (by omega) (by omega)]
   have ih := Ayc l hl hx j (i + 1) q (left - l[i]) (by omega) (by omega) (by omega) (by omega)
   rw [show ((i : Int) + 1) = ((i + 1 : Nat) : Int) by omega, ih]
   simp [okL, h]
  ·rw [if_pos (by simp [Af, Au]; omega)]
   have : okL (l[i] :: l.drop (i + 1)) left = false := by rw [okL, decide_eq_false h]; rfl
   rw [this]; rfl
def Ayt (l : List Int) : Bool := decide (1 ≤ l.length ∧ l.length ≤ 1000) && okL l 100000
theorem Aym (l : List Int) (hl : l.length ≤ 1000) (hx : ∀ x ∈ l, 0 ≤ x ∧ x < 4294967296) : Afc l = some (if Ayt l = true then 0 else 8) := by
 rw [Afc, Ahv, Ayt]
 by_cases h : 1 ≤ l.length
 ·rw [if_neg (by rw [Bg, Au, Ac]; simp; constructor; (intro e; subst e; simp at h); omega), Aja]
  have := Ayc l hl hx l.length 0 Ba 100000 (by omega) (by have := Ap; omega) (by omega) (by omega)
  rw [List.drop_zero] at this
  rw [decide_eq_true (show 1 ≤ l.length ∧ l.length ≤ 1000 from ⟨h, hl⟩), Bool.true_and]
  exact this
 ·have : l = [] := by
   cases l with
   | nil => rfl
   | cons _ _ => simp at h
  subst this; rfl
theorem Bb8 (l : List Int) (hl : l.length ≤ 1000) (hx : ∀ x ∈ l, 0 ≤ x ∧ x < 4294967296) : ∀ (j i q : Nat) (s : Int), i + j = l.length → j < q → 0 ≤ s → s ≤ 100000 * (i : Int) → Gh l q s (i : Int) = some (if (∀ x ∈ l.drop i, 5 ≤ x ∧ x ≤ 100000) ∧ s + (l.drop i).sum ≤ 100000 then 0 else 8)
 | 0, i, q + 1, s, hi, _, _, _ => by
  rw [Gh, Mj, if_neg (by rw [Af, Ac]; simp; omega), show i = l.length by omega, List.drop_length, Sr, Acj]
  by_cases h : s ≤ 100000
  ·rw [if_neg (by rw [Au]; simp; omega), if_pos (by simp; omega)]
  ·rw [if_pos (by rw [Au]; simp; omega), if_neg (by simp; omega)]
 | j + 1, i, q + 1, s, hi, hq, h0, h1 => by
  have hlt : i < l.length := by omega
  have hb := hx l[i] (List.getElem_mem hlt)
  rw [Gh, Mj, if_pos (by rw [Af, Ac]; simp; omega), Cq hlt, Aa, drop_cons hlt]
  by_cases h5 : l[i] < 5
  ·rw [if_pos (by rw [Af]; simpa using h5), if_neg (fun h => by have := (h.1 l[i] List.mem_cons_self).1; omega)]
  ·rw [if_neg (by rw [Af]; simpa using h5), Aa]
   by_cases h6 : 100000 < l[i]
   ·rw [if_pos (by rw [Au]; simpa using h6), if_neg (fun h => by have := (h.1 l[i] List.mem_cons_self).2; omega)]
   ·rw [if_neg (by rw [Au]; simpa using h6), Uq, Ac9, Cq hlt, Aa, Ag (by omega) (by omega), Ag (by omega) (by omega)]
    have ih := Bb8 l hl hx j (i + 1) q (s + l[i]) (by omega) (by omega) (by omega) (by omega)
    rw [show ((i : Int) + 1) = ((i + 1 : Nat) : Int) by omega, ih]
    have e : ((∀ x ∈ l.drop (i + 1), 5 ≤ x ∧ x ≤ 100000) ∧ s + l[i] + (l.drop (i + 1)).sum ≤ 100000) ↔ ((∀ x ∈ l[i] :: l.drop (i + 1), 5 ≤ x ∧ x ≤ 100000) ∧ s + (l[i] :: l.drop (i + 1)).sum ≤ 100000) := by
     rw [List.sum_cons, List.forall_mem_cons, Int.add_assoc]
     constructor
     ·rintro ⟨a, b⟩; exact ⟨⟨by omega, a⟩, b⟩
     ·rintro ⟨⟨_, a⟩, b⟩; exact ⟨a, b⟩
    simp only [e]
theorem Bib : ∀ {l : List Int}, (∀ x ∈ l, 5 ≤ x) → ∀ x ∈ l, x ≤ l.sum
 | [], _, x, hx => by simp at hx
 | y :: l, h, x, hx => by
  have h1 := h y List.mem_cons_self
  have h2 := Boo l fun z hz => h z (List.mem_cons_of_mem _ hz)
  rw [List.sum_cons]
  rcases List.mem_cons.1 hx with rfl | hx
  ·omega
  ·have := Bib (l := l) (fun z hz => h z (List.mem_cons_of_mem _ hz)) x hx
   omega
theorem Bla (l : List Int) (hl : l.length ≤ 1000) (hx : ∀ x ∈ l, 0 ≤ x ∧ x < 4294967296) : Rl l = some (if Ayt l = true then 0 else 8) := by
 rw [Rl, Um, Ayt]
 by_cases h : 1 ≤ l.length
 ·have := Bb8 l hl hx l.length 0 Ba 0 (by omega) (by have := Ap; omega) (by omega) (by omega)
  rw [if_neg (by rw [Af, Au, Ac]; simp; omega), Uy]
  refine Eq.trans this ?_
  rw [List.drop_zero, decide_eq_true (show 1 ≤ l.length ∧ l.length ≤ 1000 from ⟨h, hl⟩), Bool.true_and]
  have e : ((∀ x ∈ l, 5 ≤ x ∧ x ≤ 100000) ∧ 0 + l.sum ≤ 100000) ↔ okL l 100000 = true := by
   rw [Awa l 100000 (by omega), Int.zero_add]
   constructor
   ·rintro ⟨a, b⟩; exact ⟨fun x hx => (a x hx).1, b⟩
   ·rintro ⟨a, b⟩; exact ⟨fun x hx => ⟨a x hx, Int.le_trans (Bib a x hx) b⟩, b⟩
  simp only [e]
 ·have : l = [] := by
   cases l with
   | nil => rfl
   | cons _ _ => simp at h
  subst this; rfl
def Aky (b : List UInt8) (n : Nat) : List Int := (List.range n).map fun i => (Es (part b (4 * i) 4) : Int)
theorem Af1 (b : List UInt8) (n : Nat) : (Aky b n).length = n := by simp [Aky]
theorem Bcb (b : List UInt8) (n : Nat) : Aky b (n + 1) = Aky b n ++ [(Es (part b (4 * n) 4) : Int)] := by simp [Aky, List.range_succ]
theorem Bjx (b : List UInt8) (n : Nat) (h : 4 * n ≤ b.length) : ∀ x ∈ Aky b n, 0 ≤ x ∧ x < 4294967296 := by
 intro x hx
 simp only [Aky, List.mem_map, List.mem_range] at hx
 obtain ⟨i, hi, rfl⟩ := hx
 have := Bku (l := part b (4 * i) 4) (by rw [Ds (by omega)]; omega)
 omega
def Le (b : List UInt8) (n : Nat) : List Int × Int :=
 if ¬ (1 ≤ n ∧ n ≤ 1000) then ([], 2) else if b.length < 4 * n + 4 then ([], 24) else if (Hs (b.take (4 * n))).toNat ≠ Es (part b (4 * n) 4) then ([], 22) else
 if Ayt (Aky b n) = true then (Aky b n, 0) else ([], 12)
theorem Bka {b : List UInt8} {n : Nat} (h : 1 ≤ n ∧ n ≤ 1000) (h2 : ¬ b.length < 4 * n + 4) : Cl (Ad (Hs (b.take (4 * n))) : UInt64) (leU (part b (4 * n) 4)) = decide ((Hs (b.take (4 * n))).toNat ≠ Es (part b (4 * n) 4)) := by
 rw [Ahc, Ia, Bool.eq_iff_iff]
 simp only [bne_iff_ne, ne_eq, decide_eq_true_eq]
 rw [← UInt64.toNat_inj, Aju (by have := (Hs (b.take (4 * n))).toNat_lt; omega), Ajw (by rw [Ds (by omega)]; omega)]
section
variable {b : List UInt8} {n : Nat}
theorem ss1 (h : ¬ (1 ≤ n ∧ n ≤ 1000)) : Le b n = ([], 2) := by rw [Le, if_pos h]
variable (h : 1 ≤ n ∧ n ≤ 1000)
include h
theorem ss2 (h2 : b.length < 4 * n + 4) : Le b n = ([], 24) := by rw [Le, if_neg (fun e => e h), if_pos h2]
variable (h2 : ¬ b.length < 4 * n + 4)
include h2
theorem ss3 (h3 : (Hs (b.take (4 * n))).toNat ≠ Es (part b (4 * n) 4)) : Le b n = ([], 22) := by rw [Le, if_neg (fun e => e h), if_neg h2, if_pos h3]
theorem ss4 (h3 : (Hs (b.take (4 * n))).toNat = Es (part b (4 * n) 4)) : Le b n = if Ayt (Aky b n) = true then (Aky b n, 0) else ([], 12) := by rw [Le, if_neg (fun e => e h), if_neg h2, if_neg (fun e => e h3)]
end
theorem Baq (b : List UInt8) (l8 : List Int) (n : Nat) (hn : n ≤ 1000) (h8 : l8.length = n) (hb : 4 * n + 4 ≤ b.length) (hb2 : b.length < 4611686018427387904) : ∀ (j i q : Nat), i + j = n → j < q → Tv b l8 q (i : Int) (Aky b i ++ List.replicate j 0) = Ae0 (Aky b n)
 | 0, i, q + 1, hi, _ => by
  obtain rfl : i = n := by omega
  rw [Tv, Aet, if_neg (by rw [Af, Ac]; simp; omega)]; simp
 | j + 1, i, q + 1, hi, hq => by
  have hlen : (Aky b i ++ List.replicate (j + 1) 0).length = i + (j + 1) := by simp [Af1]
  have ha := Bb7 b (4 * i) 4 (by omega) (by omega) (by omega) hb2
  rw [Tv, Aet, if_pos (by rw [Af, Ac]; simp; omega), Gt (by omega) (by omega), show (4 : Int) * (i : Int) = ((4 * i : Nat) : Int) by omega, show (4 : Int) = ((4 : Nat) : Int) from rfl, ha, Aa]
  simp only
  rw [Cq (by rw [hlen]; omega), Aa, We _ (by rw [hlen]; omega), Aa, Aeu (by rw [Ds (by omega)]; omega), Ag (by omega) (by omega), List.replicate_succ, Aqr (Af1 _ _)]
  have ih := Baq b l8 n hn h8 hb hb2 j (i + 1) q (by omega) (by omega)
  rw [Bcb] at ih
  rw [show ((i : Int) + 1) = ((i + 1 : Nat) : Int) by omega, ← ih]
  simp
theorem Bcc (b : List UInt8) (n : Nat) (hb : b.length ≤ 100100) : Aik b (n : Int) = some (Le b n) := by
 rw [Aik, Aj9]
 by_cases h : 1 ≤ n ∧ n ≤ 1000
 ·rw [if_neg (by simp [Af, Au]; omega), Gt (by omega) (by omega), Ag (by omega) (by omega)]
  by_cases h2 : b.length < 4 * n + 4
  ·rw [if_pos (by rw [Af, Ac]; simp; omega), ss2 h h2]
  ·have ha : Alh b (4 * (n : Int)) 4 = some (leU (part b (4 * n) 4), 0) := by
    rw [show (4 : Int) * (n : Int) = ((4 * n : Nat) : Int) by omega]
    exact Bb7 b (4 * n) 4 (by omega) (by omega) (by omega) (by omega)
   rw [if_neg (by rw [Af, Ac]; simp; omega), ha, Aa]
   simp only
   rw [Kt (by omega) (by omega), Aa, show (4 * (n : Int)).toNat = 4 * n by omega, Bi8 _ (by simp; omega), Aa]
   simp only
   rw [Bka h h2]
   by_cases h3 : (Hs (b.take (4 * n))).toNat = Es (part b (4 * n) 4)
   ·have hlp := Baq b (List.replicate n 0) n (by omega) (by simp) (by omega) (by omega) n 0 Ba (by omega) (by have := Ap; omega)
    rw [if_neg (by simpa using h3), Asv (by omega) (by omega), Aa, Bu (by rw [Bg]; simp), Aa, Aks, Int.toNat_natCast]
    refine Eq.trans (hlp) ?_
    rw [Ae0, Arj, Aym _ (by rw [Af1]; omega) (Bjx b n (by omega)), Aa, ss4 h h2 h3]
    cases Ayt (Aky b n) <;> rfl
   ·rw [if_pos (by simpa using h3), ss3 h h2 h3]
 ·rw [if_pos (by simp [Af, Au]; omega), ss1 h]
theorem Aq4 (b : List UInt8) (n : Nat) (hn : n ≤ 1000) (hb : 4 * n + 4 ≤ b.length) (hb2 : b.length < 4611686018427387904) : ∀ (j i q : Nat), i + j = n → j < q → Gz b (n : Int) q (i : Int) (Aky b i) = Nm (Aky b n)
 | 0, i, q + 1, hi, _ => by
  obtain rfl : i = n := by omega
  rw [Gz, Og, if_neg (by rw [Af]; simp)]
 | j + 1, i, q + 1, hi, hq => by
  have hc : Ce b ((4 : Int) * (i : Int)) ((4 : Int) * (i : Int) + 4) = some (part b (4 * i) 4) := by
   rw [show (4 : Int) * (i : Int) = ((4 * i : Nat) : Int) by omega]
   exact Nq (4 * i) 4 (by omega)
  rw [Gz, Og, if_pos (by rw [Af]; simp; omega), Gt (by omega) (by omega), Ag (by omega) (by omega), hc, Aa, Bf5 _ (by rw [Ds (by omega)]; omega), Aa, Dc (by rw [Af1]; simp; omega), Aa,
   Aeu (by rw [Ds (by omega)]; omega), Ag (by omega) (by omega), ← Bcb]
  exact Aq4 b n hn hb hb2 j (i + 1) q (by omega) (by omega)
theorem Be8 (b : List UInt8) (n : Nat) (hb : b.length ≤ 100100) : Oa b (n : Int) = some (Le b n) := by
 rw [Oa, Wr]
 by_cases h : 1 ≤ n ∧ n ≤ 1000
 ·rw [if_neg (by simp [Af, Au]; omega), Gt (by omega) (by omega), Ag (by omega) (by omega)]
  by_cases h2 : b.length < 4 * n + 4
  ·rw [if_pos (by rw [Af, Ac]; simp; omega), ss2 h h2]
  ·have hc : Ce b ((4 : Int) * (n : Int)) ((4 : Int) * (n : Int) + 4) = some (part b (4 * n) 4) := by
    rw [show (4 : Int) * (n : Int) = ((4 * n : Nat) : Int) by omega]
    exact Nq (4 * n) 4 (by omega)
   have hs : Cl (leU (part b (4 * n) 4)) (Ad (Hs (b.take (4 * n))) : UInt64) = decide ((Hs (b.take (4 * n))).toNat ≠ Es (part b (4 * n) 4)) := by
    rw [← Bka h h2, Ahc, Ahc, Bool.eq_iff_iff]; simp only [bne_iff_ne, ne_eq]; exact not_congr eq_comm
   rw [if_neg (by rw [Af, Ac]; simp; omega), hc, Aa, Kt (by omega) (by omega), Aa, show (4 * (n : Int)).toNat = 4 * n by omega, Bf5 _ (by rw [Ds (by omega)]; omega), Aa, Bor _ (by simp; omega), Aa, hs]
   by_cases h3 : (Hs (b.take (4 * n))).toNat = Es (part b (4 * n) 4)
   ·have hlp := Aq4 b n (by omega) (by omega) (by omega) n 0 Ba (by omega) (by have := Ap; omega)
    rw [if_neg (by simpa using h3), Xa, Wa, Wt]
    refine Eq.trans hlp ?_
    rw [Nm, Afm, Bla _ (by rw [Af1]; omega) (Bjx b n (by omega)), Aa, ss4 h h2 h3]
    cases Ayt (Aky b n) <;> rfl
   ·rw [if_pos (by simpa using h3), ss3 h h2 h3]
 ·rw [if_pos (by simp [Af, Au]; omega), ss1 h]
theorem Ayk {b : List UInt8} {n : Nat} (h : (Le b n).2 = 0) : Le b n = (Aky b n, 0) ∧ 1 ≤ n ∧ n ≤ 1000 ∧ 4 * n + 4 ≤ b.length ∧ (∀ x ∈ Aky b n, 5 ≤ x) ∧ (Aky b n).sum ≤ 100000 := by
 unfold Le at h ⊢
 split at h; · simp at h
 rename_i c1; rw [if_neg c1]
 split at h; · simp at h
 rename_i c2; rw [if_neg c2]
 split at h; · simp at h
 rename_i c3; rw [if_neg c3]
 split at h
 ·rename_i c4
  rw [if_pos c4]
  have c4' := c4
  rw [Ayt, Bool.and_eq_true, Awa _ _ (by omega)] at c4'
  exact ⟨rfl, by omega, by omega, by omega, c4'.2.1, c4'.2.2⟩
 ·simp at h
end Go.Pl
set_option linter.unusedVariables false
set_option linter.unusedSimpArgs false
namespace Go.Pl
open Go Go.Lv
def hdr (b : List UInt8) : List UInt8 := b.drop (frontS b).1.toNat
abbrev Op8 := Int × Int × Int × Int × Int × Int × (List Int) × Int
def Akk (e : Int) : Op8 := (0, 0, 0, 0, 0, 0, [], e)
theorem Bpe (A K : Nat) (h : A ≤ 200000) (hk : K ≤ 1000) : Ae (Ae (A : Int) (Bj 4 (K : Int))) 4 = ((A + 4 * K + 4 : Nat) : Int) := by
 rw [Gt (by omega) (by omega), Ag (a := (A : Int)) (by omega) (by omega), Ag (by omega) (by omega)]; omega
theorem Ba6 {f c w r n : Nat} (h1 : shapeB f c w r n = true) (h2 : fitB c r n = true) (b : List UInt8) (hb : b.length ≤ 100100) (A : Nat) (hA : A ≤ b.length) :
  Qu b (f : Int) (c : Int) (w : Int) (r : Int) (n : Int) (A : Int) =
   some (if (Le (b.drop A) (framesL (longN r) n).length).2 ≠ 0 then Akk (Le (b.drop A) (framesL (longN r) n).length).2 else ((f : Int), (c : Int), (w : Int), (r : Int), (n : Int), ((A + 4 * (framesL (longN r) n).length + 4 : Nat) : Int), (Le (b.drop A) (framesL (longN r) n).length).1, 0)) := by
 rw [Qu, Aol, Ajz h1 h2, Aa]
 simp only
 rw [if_neg (by rw [Ah]; simp), Ng (by omega) (by omega), Aa, Ac, show (A : Int).toNat = A from rfl, Bcc _ _ (by simp; omega), Aa]
 by_cases h : (Le (b.drop A) (framesL (longN r) n).length).2 ≠ 0
 ·rw [if_pos h, if_pos (by rw [Ah]; simpa using h)]; rfl
 ·have h0 : (Le (b.drop A) (framesL (longN r) n).length).2 = 0 := by simpa using h
  obtain ⟨g1, g2, g3, g4, g5, g6⟩ := Ayk h0
  have gl : (Le (b.drop A) (framesL (longN r) n).length).1.length = (framesL (longN r) n).length := by rw [g1]; exact Af1 _ _
  rw [if_neg h, if_neg (by rw [Ah]; simpa using h), Ac, gl, Bpe _ _ (by omega) (by omega)]
theorem Bnp {f c w r n : Nat} (h1 : shapeB f c w r n = true) (h2 : fitB c r n = true) (b : List UInt8) (hb : b.length ≤ 100100) (A : Nat) (hA : A ≤ b.length) :
  Hr b (f : Int) (c : Int) (w : Int) (r : Int) (n : Int) (A : Int) =
   some (if (Le (b.drop A) (framesL (longN r) n).length).2 ≠ 0 then Akk (Le (b.drop A) (framesL (longN r) n).length).2 else ((f : Int), (c : Int), (w : Int), (r : Int), (n : Int), ((A + 4 * (framesL (longN r) n).length + 4 : Nat) : Int), (Le (b.drop A) (framesL (longN r) n).length).1, 0)) := by
 have hs : (1 ≤ r ∧ r ≤ 1048576) ∧ 1 ≤ n ∧ 1 ≤ c := by
  simp only [shapeB, decide_eq_true_eq] at h1; omega
 have hf : n ≤ 4000 := by
  simp only [fitB, decide_eq_true_eq] at h2
  have := Nat.div_le_self 4000 c
  omega
 rw [Hr, Sa, Ng (by omega) (by omega), Aa, Ahy hs.1.2 hs.2.1 hf, Aa, Ac, show (A : Int).toNat = A from rfl, Be8 _ _ (by simp; omega), Aa]
 simp only
 rw [Sm, Abf]
 by_cases h : (Le (b.drop A) (framesL (longN r) n).length).2 ≠ 0
 ·rw [if_pos h, if_pos (by rw [Ah]; simpa using h)]; rfl
 ·have h0 : (Le (b.drop A) (framesL (longN r) n).length).2 = 0 := by simpa using h
  obtain ⟨g1, g2, g3, g4, g5, g6⟩ := Ayk h0
  have gl : (Le (b.drop A) (framesL (longN r) n).length).1.length = (framesL (longN r) n).length := by rw [g1]; exact Af1 _ _
  rw [if_neg h, if_neg (by rw [Ah]; simpa using h), Ac, gl, Bpe _ _ (by omega) (by omega)]
structure Opn (b p : List UInt8) (f c w r n A : Nat) (l : List Int) : Prop where
 prog : seekto_Open b p = some ((f : Int), (c : Int), (w : Int), (r : Int), (n : Int), (A : Int), l, 0)
 ref : cadenzaref40_Opened b p = some ((f : Int), (c : Int), (w : Int), (r : Int), (n : Int), (A : Int), l, 0)
 pass : p.length ≤ 64
 file : b.length ≤ 100000
 shape : shapeB f c w r n = true
 fit : fitB c r n = true
 len : l.length = (framesL (longN r) n).length
 some1 : 1 ≤ l.length ∧ l.length ≤ 1000
 five : ∀ x ∈ l, 5 ≤ x
 sum : l.sum ≤ 100000
 at' : A ≤ b.length
 tag : (frontS b).2 = 0
 pos : A = (frontS b).1.toNat + 22 + (if f = 2 then 8 else 0) + 4 * l.length + 4
theorem Atp (b p : List UInt8) (hb : b.length ≤ 100100) (hp : p.length ≤ 64) :
  (∃ e : Int, e ≠ 0 ∧ seekto_Open b p = some (Akk e) ∧ cadenzaref40_Opened b p = some (Akk e)) ∨ (∃ f c w r n A l, Opn b p f c w r n A l) := by
 by_cases h1 : 100000 < b.length
 ·refine .inl ⟨4, by omega, ?_, ?_⟩
  ·rw [seekto_Open, Ra, if_neg (by rw [Au, Ac]; simp; omega), if_pos (by rw [Au, Ac]; simp; omega)]; rfl
  ·rw [cadenzaref40_Opened, Kz, if_pos (by rw [Au, Ac]; simp; omega)]; rfl
 have hP : seekto_Open b p = seekto_Open b p := rfl
 have hR : cadenzaref40_Opened b p = cadenzaref40_Opened b p := rfl
 conv at hP => rhs; rw [seekto_Open, Ra, if_neg (by rw [Au, Ac]; simp; omega), if_neg (by rw [Au, Ac]; simp; omega), Apl b (by omega), Aa]
 conv at hR => rhs; rw [cadenzaref40_Opened, Kz, if_neg (by rw [Au, Ac]; simp; omega), Asn b (by omega), Aa]
 by_cases h2 : (frontS b).2 = 0
 ·obtain ⟨p0, p1, p2⟩ := Bcg h2
  have hc := Ng (l := b) p0 p1
  simp only [h2] at hP hR
  rw [if_neg (by rw [Ah]; simp), hc, Aa, show b.drop (frontS b).1.toNat = hdr b from rfl, Bbo _ (by simp [hdr]; omega), Aa] at hP
  rw [if_neg (by rw [Ah]; simp), hc, Aa, show b.drop (frontS b).1.toNat = hdr b from rfl, Bet _ (by simp [hdr]; omega), Aa] at hR
  by_cases h3 : (Yt (hdr b)).2.2.2.2.2 = 0
  ·obtain ⟨g1, g2, g3, g4⟩ := Bge h3
   have hlen : (hdr b).length = b.length - (frontS b).1.toNat := by simp [hdr]
   generalize hF : (frontS b).1.toNat = F at *
   have hF' : (frontS b).1 = (F : Int) := by omega
   rw [g1, hF'] at hP hR
   simp only at hP hR
   generalize f0 (hdr b) = f at *
   generalize f1 (hdr b) = c at *
   generalize f2 (hdr b) = w at *
   generalize f3 (hdr b) = r at *
   generalize f4 (hdr b) = n at *
   have t22 : Ae (F : Int) 22 = ((F + 22 : Nat) : Int) := by rw [Ag (by omega) (by omega)]; omega
   have t30 : Ae ((F + 22 : Nat) : Int) 8 = ((F + 30 : Nat) : Int) := by rw [Ag (by omega) (by omega)]; omega
   have hf12 : f = 1 ∨ f = 2 := by simp only [shapeB, decide_eq_true_eq] at g3; omega
   rw [if_neg (by rw [Ah]; simp), t22, t30] at hP hR
   have hend : ∀ A : Nat, A ≤ b.length → A = F + 22 + (if f = 2 then 8 else 0) → seekto_Open b p = Qu b (f : Int) (c : Int) (w : Int) (r : Int) (n : Int) (A : Int) → cadenzaref40_Opened b p = Hr b (f : Int) (c : Int) (w : Int) (r : Int) (n : Int) (A : Int) →
     (∃ e : Int, e ≠ 0 ∧ seekto_Open b p = some (Akk e) ∧ cadenzaref40_Opened b p = some (Akk e)) ∨ (∃ f c w r n A l, Opn b p f c w r n A l) := by
    intro A hA hA2 e1 e2
    rw [Ba6 g3 g4 b hb A hA] at e1
    rw [Bnp g3 g4 b hb A hA] at e2
    by_cases h : (Le (b.drop A) (framesL (longN r) n).length).2 ≠ 0
    ·rw [if_pos h] at e1 e2
     exact .inl ⟨_, h, e1, e2⟩
    ·have h0 : (Le (b.drop A) (framesL (longN r) n).length).2 = 0 := by simpa using h
     obtain ⟨k1, k2, k3, k4, k5, k6⟩ := Ayk h0
     have gl : (Le (b.drop A) (framesL (longN r) n).length).1.length = (framesL (longN r) n).length := by rw [k1]; exact Af1 _ _
     rw [if_neg h] at e1 e2
     rw [List.length_drop] at k4
     refine .inr ⟨f, c, w, r, n, _, _, ⟨e1, e2, hp, by omega, g3, g4, gl, by omega, by rw [k1]; exact k5, by rw [k1]; exact k6, by omega, h2, by rw [gl, hF, ← hA2]⟩⟩
   by_cases hpass : ((p == ([] : List UInt8)) != (geq (f : Int) (1 : Int))) = true
   ·rw [if_pos hpass] at hP hR
    exact .inl ⟨26, by omega, hP, hR⟩
   ·rw [if_neg hpass] at hP hR
    have hpf : (p = [] ↔ f = 1) := by
     rw [Bg] at hpass
     have h5 : (p == ([] : List UInt8)) = ((f : Int) == 1) := by simpa using hpass
     have h6 : (p == ([] : List UInt8)) = true ↔ ((f : Int) == 1) = true := by rw [h5]
     rw [beq_iff_eq, beq_iff_eq] at h6
     rw [h6]; omega
    by_cases h5 : f = 2
    ·have hpne : p ≠ [] := fun e => by have := hpf.1 e; omega
     have h64 : (p != ([] : List UInt8)) = true := by simpa using hpne
     rw [if_pos h64] at hP
     rw [if_pos (by rw [Bg, h5]; rfl), Bk (by rw [Ac]; omega) (by rw [Ac]; omega)] at hR
     by_cases h6 : b.length < F + 30
     ·rw [if_pos (by rw [Af, Ac]; simp; omega)] at hP hR
      exact .inl ⟨24, by omega, hP, hR⟩
     ·have hseg : ((b.take (F + 30)).drop (F + 22)).length = 8 := by simp; omega
      rw [if_neg (by rw [Af, Ac]; simp; omega), Uj (by omega) (by omega) (by omega), Aa] at hP hR
      rw [Xx, Bbr p hp, Aa] at hP
      rw [Bb1 p hp, Aa] at hR
      simp only at hP
      rw [if_neg (by rw [Ah, Ah, Ac, Ac, Nh, show ((F + 30 : Nat) : Int).toNat = F + 30 from rfl, show ((F + 22 : Nat) : Int).toNat = F + 22 from rfl, hseg]; simp), Gx, Aa, Aa] at hP
      simp only at hP
      rw [if_neg (by rw [Ah]; simp)] at hP
      generalize (b.take ((F + 30 : Nat) : Int).toNat).drop ((F + 22 : Nat) : Int).toNat = seg at *
      by_cases h7 : seg = leB (Afe p).toNat 8
      ·rw [if_neg (by simp [h7])] at hP
       rw [if_neg (by simp [h7])] at hR
       exact hend (F + 30) (by omega) (by rw [if_pos h5]) hP hR
      ·rw [if_pos (by simpa using h7)] at hP
       rw [if_pos (by simpa using h7)] at hR
       exact .inl ⟨26, by omega, hP, hR⟩
    ·have hpe : p = [] := hpf.2 (by omega)
     rw [if_neg (by rw [hpe]; simp)] at hP
     rw [if_neg (by rw [Bg]; simp; omega)] at hR
     exact hend (F + 22) (by omega) (by rw [if_neg h5]) hP hR
  ·generalize Yt (hdr b) = v at *
   obtain ⟨v1, v2, v3, v4, v5, v6⟩ := v
   simp only at h3 hP hR
   rw [if_pos (by rw [Ah]; simpa using h3)] at hP hR
   exact .inl ⟨v6, h3, hP, hR⟩
 ·generalize frontS b = v at *
  obtain ⟨v, e⟩ := v
  simp only at h2 hP hR
  rw [if_pos (by rw [Ah]; simpa using h2)] at hP hR
  exact .inl ⟨e, h2, hP, hR⟩
end Go.Pl
set_option linter.unusedVariables false
set_option linter.unusedSimpArgs false
namespace Go.Pl
open Go Go.Lv
theorem Bml (l : List Int) (i : Nat) : (l.take i).sum + (l.drop i).sum = l.sum := by
 conv => rhs; rw [← List.take_append_drop i l, List.sum_append]
theorem Fw {l : List Int} (h5 : ∀ x ∈ l, 5 ≤ x) (i : Nat) : 0 ≤ (l.take i).sum ∧ (l.take i).sum ≤ l.sum := by
 have h1 := Boo (l.take i) fun x hx => h5 x (List.mem_of_mem_take hx)
 have h2 := Boo (l.drop i) fun x hx => h5 x (List.mem_of_mem_drop hx)
 have := Bml l i
 omega
theorem Pc {l : List Int} {i : Nat} (h : i < l.length) : (l.take (i + 1)).sum = (l.take i).sum + l[i] := by
 rw [Ak4 h, List.sum_append]; simp
def Av3 (l : List Int) (n : Nat) : List Int := (List.range n).map fun i => (l.take i).sum
theorem Be2 (l : List Int) (n : Nat) : (Av3 l n).length = n := by simp [Av3]
theorem Bmv (l : List Int) (n : Nat) : Av3 l (n + 1) = Av3 l n ++ [(l.take n).sum] := by simp [Av3, List.range_succ]
theorem Azm (l : List Int) {n i : Nat} (h : i < n) : getI (Av3 l n) (i : Int) = some ((l.take i).sum) := by
 rw [Cq (by rw [Be2]; exact h)]; simp [Av3]
section
variable {l : List Int} (hl : l.length ≤ 1000) (h5 : ∀ x ∈ l, 5 ≤ x) (hs : l.sum ≤ 100000)
include hl h5 hs
theorem Bau : ∀ (j i q : Nat), i + j = l.length → j < q → Lj l q (i : Int) ((l.take i).sum) (Av3 l (i + 1)) = some (Av3 l (l.length + 1), 0)
 | 0, i, q + 1, hi, _ => by
  rw [Lj, Xt, if_neg (by rw [Af, Ac]; simp; omega), show i = l.length by omega]; rfl
 | j + 1, i, q + 1, hi, hq => by
  have hlt : i < l.length := by omega
  have ih := Bau j (i + 1) q (by omega) (by omega)
  have b1 := Fw h5 i
  have b2 := Fw h5 (i + 1)
  have e := Pc hlt
  rw [Bmv l (i + 1), e] at ih
  rw [Lj, Xt, if_pos (by rw [Af, Ac]; simp; omega), Cq hlt, Aa, Ag (by omega) (by omega), Dc (by simp [Be2]; omega), Aa, Aei, Alg, Ag (by omega) (by omega), Ag (by omega) (by omega)]
  exact ih
theorem Bqz (h1 : 1 ≤ l.length) : Aey l = some (Av3 l (l.length + 1), 0) := by
 have h := Bau hl h5 hs l.length 0 Ba (by omega) (by have := Ap; omega)
 have hx : ∀ x ∈ l, 0 ≤ x ∧ x < 4294967296 := fun x hx => by
  have := Bib h5 x hx
  have := h5 x hx
  omega
 have ht : Ayt l = true := by
  rw [Ayt, Bool.and_eq_true]
  exact ⟨by simpa using ⟨h1, hl⟩, (Awa l 100000 (by omega)).2 ⟨h5, hs⟩⟩
 rw [Aey, Ad1, Aym l hl hx, Aa, if_pos ht, if_neg (by rw [Ah]; simp)]
 exact h
theorem Azj (f c w r n A : Int) (hA : 0 ≤ A) (hA2 : A ≤ 200000) (k : Nat) (hk : k ≤ l.length) : ∀ (j i q : Nat), i + j = k → j < q → Ga (k : Int) f c w r n A l q (A + (l.take i).sum) (i : Int) = some (A + (l.take k).sum)
 | 0, i, q + 1, hi, _ => by
  rw [Ga, Mo, if_neg (by rw [Af]; simp; omega), show i = k by omega]; rfl
 | j + 1, i, q + 1, hi, hq => by
  have hlt : i < l.length := by omega
  have ih := Azj f c w r n A hA hA2 k hk j (i + 1) q (by omega) (by omega)
  have b1 := Fw h5 i
  have b2 := Fw h5 (i + 1)
  have e := Pc hlt
  rw [e, ← Int.add_assoc] at ih
  rw [Ga, Mo, if_pos (by rw [Af]; simp; omega), Cq hlt, Aa, Ag (by omega) (by omega), Ag (by omega) (by omega)]
  exact ih
theorem Bbq (f c w r n A : Int) (hA : 0 ≤ A) (hA2 : A ≤ 200000) (k : Nat) (hk : k ≤ l.length) : Ti f c w r n A l (k : Int) = some (A + (l.take k).sum) := by
 have h := Azj hl h5 hs f c w r n A hA hA2 k hk k 0 Ba (by omega) (by have := Ap; omega)
 rw [List.take_zero, List.sum_nil, Int.add_zero] at h
 exact h
end
theorem Baa {g n : Nat} (hg : 1 ≤ g) (hn : 1 ≤ n) {x : Int} (h : x ∈ framesL g n) : ∃ m : Nat, x = m ∧ 1 ≤ m ∧ m ≤ n := by
 have hmul := Nat.div_mul_le_self (n - 1) g
 rw [framesL, List.mem_append] at h
 rcases h with h | h
 ·rw [List.mem_replicate] at h
  have h1 : 1 ≤ (n - 1) / g := Nat.pos_of_ne_zero h.1
  have := Nat.mul_le_mul_right g h1
  exact ⟨g, h.2, hg, by omega⟩
 ·rw [List.mem_singleton] at h
  exact ⟨_, h, by omega, by omega⟩
theorem Tp {f c w r n : Nat} (h : shapeB f c w r n = true) : (1 ≤ c ∧ c ≤ 6) ∧ Dn (w : Int) ∧ (1 ≤ r ∧ r ≤ 1048576) ∧ 1 ≤ n ∧ (f = 1 ∨ f = 2) := by
 simp only [shapeB, decide_eq_true_eq] at h
 refine ⟨h.2.1, ?_, h.2.2.2.1, h.2.2.2.2, h.1⟩
 rcases h.2.2.1 with rfl | rfl | rfl
 ·exact .inl rfl
 ·exact .inr (.inl rfl)
 ·exact .inr (.inr rfl)
theorem Blq {b p : List UInt8} {f c w r n A : Nat} {l : List Int} (o : Opn b p f c w r n A l) (k : Nat) (hk : k < l.length) :
  ∃ y : List UInt8 × Int, Tn (k : Int) (framesL (longN r) n) (f : Int) (c : Int) (w : Int) (r : Int) (n : Int) (A : Int) b (tapsOf p) l (Av3 l (l.length + 1)) = some y ∧
   cadenzaref40_Got b p (f : Int) (c : Int) (w : Int) (r : Int) (n : Int) (A : Int) l (k : Int) = some y := by
 obtain ⟨hc, hw, hr, hn, _⟩ := Tp o.shape
 have hfit : n ≤ 4000 / c := by have := o.fit; simp only [fitB, decide_eq_true_eq] at this; exact this.1
 have hn4 : n ≤ 4000 := by have := Nat.div_le_self 4000 c; omega
 have hA := o.at'
 have hfile := o.file
 have hlen := o.len
 have b1 := Fw o.five k
 have b2 := Fw o.five (k + 1)
 have e := Pc hk
 have h5 := o.five l[k] (List.getElem_mem _)
 have hsum := o.sum
 have hs1 := o.some1
 have hkf : k < (framesL (longN r) n).length := by omega
 obtain ⟨m, hm, m1, m2⟩ := Baa (Alc r) hn (List.getElem_mem hkf)
 have e1 : Ae (k : Int) 1 = ((k + 1 : Nat) : Int) := by rw [Ag (by omega) (by omega)]; omega
 rw [Tn, Agl, if_neg (by rw [Ah]; simp), if_neg (by simp [Af, Dz, Ac]; omega), e1, Azm l (by omega), Azm l (by omega), Aa, Aa, Aa, Aa, Agb, Agm, Ag (a := (A : Int)) (b := (l.take (k + 1)).sum) (by omega) (by omega), Ag (by omega) (by omega)]
 rw [cadenzaref40_Got, Km, Bbq hs1.2 o.five o.sum _ _ _ _ _ (A : Int) (by omega) (by omega) k (by omega), Aa, Cq hk, Aa, Bk (by rw [Ac]; omega) (by rw [Ac]; omega)]
 by_cases hto : (b.length : Int) < (A : Int) + (l.take (k + 1)).sum
 ·rw [if_pos (by rw [Au, Ac, decide_eq_true_eq]; omega), if_pos (by rw [Af, Ac, decide_eq_true_eq]; omega)]
  exact ⟨_, rfl, rfl⟩
 ·rw [if_neg (by rw [Au, Ac, decide_eq_true_eq]; omega), if_neg (by rw [Af, Ac, decide_eq_true_eq]; omega), Ax1 p o.pass, Ahy hr.2 hn hn4]
  simp only [Aa]
  rw [Ag (a := (A : Int) + (l.take k).sum) (b := l[k]) (by omega) (by omega), Int.add_assoc, ← e, Cq hkf, hm]
  simp only [Aa]
  rw [Uj (by omega) (by omega) (by omega), Aa, Aa]
  obtain ⟨x, er, g1, g2, g3, _⟩ := Avx (ch := c) (n := m) (t := tapsOf p) ((b.take ((A : Int) + (l.take (k + 1)).sum).toNat).drop ((A : Int) + (l.take k).sum).toNat) hw (Aw6 p) hc.1 hc.2 m1 (by omega)
  rw [g1, g2, Aa, Aa]
  simp only
  rw [Agk, Age, Pu, Yl]
  by_cases her : er = 0
  ·obtain ⟨g4, g5, _⟩ := g3 her
   rw [if_neg (by rw [Ah]; simpa using her), if_neg (by rw [Ah]; simpa using her), Azx hw g5 g4, Baz hw g5 g4, Aa, Aa]
   exact ⟨_, rfl, rfl⟩
  ·rw [if_pos (by rw [Ah]; simpa using her), if_pos (by rw [Ah]; simpa using her)]
   exact ⟨_, rfl, rfl⟩
theorem Bg1 {b p : List UInt8} (hp : p.length ≤ 64) {y : Op8} (h : cadenzaref40_Opened b p = some y) : Hk b p = some y := by
 rw [Hk, if_neg (by rw [Au, Ac]; simp; omega), h, Aa]
theorem Bg2 {b p : List UInt8} {f c w r n A : Nat} {l : List Int} (o : Opn b p f c w r n A l) (k : Int) : Abu b p k = Tn k (framesL (longN r) n) (f : Int) (c : Int) (w : Int) (r : Int) (n : Int) (A : Int) b (tapsOf p) l (Av3 l (l.length + 1)) := by
 have hs1 := o.some1
 rw [Abu, Agh, o.prog, Aa]
 simp only
 rw [if_neg (by rw [Ah]; simp), Ajz o.shape o.fit, Aa]
 simp only
 rw [if_neg (by rw [Ah]; simp), Bqz hs1.2 o.five o.sum hs1.1, Aa]
 simp only
 rw [if_neg (by rw [Ah]; simp), Bch p o.pass, Aa]
 simp only
 rw [if_neg (by rw [Ah]; simp), Ac, ← o.len, Azm l (by omega), Aa, Aa]
theorem Bb0 (b p : List UInt8) (hp : 64 < p.length) (hp2 : p.length ≤ 1000) : seekto_Open b p = some (Akk 2) ∧ Hk b p = some (Akk 2) := by
 constructor
 ·rw [seekto_Open, Ra, if_pos (by rw [Au, Ac]; simp; omega)]; rfl
 ·rw [Hk, if_pos (by rw [Au, Ac]; simp; omega)]; rfl
theorem Aqy (l : List Int) (hl : l.length ≤ 100000) : ∀ (j i q : Nat), i + j = l.length → j < q → Ep l l q (i : Int) = some true
 | 0, i, q + 1, hi, _ => by
  rw [Ep, Jc, if_neg (by rw [Af, Ac]; simp; omega)]; rfl
 | j + 1, i, q + 1, hi, hq => by
  rw [Ep, Jc, if_pos (by rw [Af, Ac]; simp; omega), Cq (by omega), Aa, Aa, if_neg (by rw [Ah]; simp), Ag (by omega) (by omega)]
  exact Aqy l hl j (i + 1) q (by omega) (by omega)
theorem Bqo (l : List Int) (hl : l.length ≤ 100000) : Mk l l = some true := by
 rw [Mk, Oy, if_neg (by rw [Ah]; simp)]
 exact Aqy l hl l.length 0 Ba (by omega) (by have := Ap; omega)
end Go.Pl
set_option linter.unusedVariables false
set_option linter.unusedSimpArgs false
namespace Go.Pl
open Go Go.Lv
theorem Bu2 (n m : Nat) : My n m 0 ≠ My n m 2147483648 := by
 intro h
 simp [My, leB, APE] at h
def Br (b : List UInt8) : List UInt8 := b.drop (b.length - 32)
theorem Bhl {b : List UInt8} (h : 32 ≤ b.length) : (Br b).length = 32 := by rw [Br, List.length_drop]; omega
def itA (t : List UInt8) : Nat := Es (part t 12 4) - 32
def mnA (t : List UInt8) : Nat := Es (part t 16 4)
def Wh (b : List UInt8) : Int × Int :=
 if ¬ (32 ≤ b.length ∧ (Br b).take 8 = APE) then (0, 6) else if Ae4 (Br b) = true then (0, 12) else
 if Br b = My (itA (Br b)) (mnA (Br b)) 0 then (if b.length < itA (Br b) + 32 then (0, 24) else (((itA (Br b) + 32 : Nat) : Int), 0)) else
 if Br b ≠ My (itA (Br b)) (mnA (Br b)) 2147483648 then (0, 12) else
 if b.length < itA (Br b) + 64 then (0, 24) else
 if (b.take (b.length - (itA (Br b) + 64) + 32)).drop (b.length - (itA (Br b) + 64)) ≠ My (itA (Br b)) (mnA (Br b)) 2684354560 then (0, 12) else (((itA (Br b) + 64 : Nat) : Int), 0)
section
variable {b : List UInt8}
theorem ba1 (h : ¬ (32 ≤ b.length ∧ (Br b).take 8 = APE)) : Wh b = (0, 6) := by rw [Wh, if_pos h]
variable (h : 32 ≤ b.length ∧ (Br b).take 8 = APE)
include h
theorem ba2 (h2 : Ae4 (Br b) = true) : Wh b = (0, 12) := by rw [Wh, if_neg (fun h' => h' h), if_pos h2]
variable (h2 : Ae4 (Br b) = false)
include h2
theorem ba3 (h3 : Br b = My (itA (Br b)) (mnA (Br b)) 0) : Wh b = if b.length < itA (Br b) + 32 then (0, 24) else (((itA (Br b) + 32 : Nat) : Int), 0) := by
 rw [Wh, if_neg (fun h' => h' h), if_neg (by rw [h2]; simp), if_pos h3]
variable (h3 : Br b ≠ My (itA (Br b)) (mnA (Br b)) 0)
include h3
theorem ba4 (h4 : Br b ≠ My (itA (Br b)) (mnA (Br b)) 2147483648) : Wh b = (0, 12) := by
 rw [Wh, if_neg (fun h' => h' h), if_neg (by rw [h2]; simp), if_neg h3, if_pos h4]
variable (h4 : Br b = My (itA (Br b)) (mnA (Br b)) 2147483648)
include h4
theorem ba5 (h5 : b.length < itA (Br b) + 64) : Wh b = (0, 24) := by
 rw [Wh, if_neg (fun h' => h' h), if_neg (by rw [h2]; simp), if_neg h3, if_neg (fun e => e h4), if_pos h5]
theorem ba6 (h5 : ¬ b.length < itA (Br b) + 64) : Wh b = if (b.take (b.length - (itA (Br b) + 64) + 32)).drop (b.length - (itA (Br b) + 64)) ≠ My (itA (Br b)) (mnA (Br b)) 2684354560 then (0, 12) else (((itA (Br b) + 64 : Nat) : Int), 0) := by
 rw [Wh, if_neg (fun h' => h' h), if_neg (by rw [h2]; simp), if_neg h3, if_neg (fun e => e h4), if_neg h5]
end
theorem Be1 {b : List UInt8} {n : Int} (h : Wh b = (n, 0)) : 32 ≤ n ∧ n ≤ b.length := by
 unfold Wh at h
 split at h; · simp at h
 rename_i h32
 split at h; · simp at h
 split at h
 ·split at h; · simp at h
  simp only [Prod.mk.injEq, and_true] at h; omega
 split at h; · simp at h
 split at h; · simp at h
 split at h; · simp at h
 simp only [Prod.mk.injEq, and_true] at h; omega
theorem Bna {b : List UInt8} (h : (Wh b).2 ≠ 0) : (Wh b).1 = 0 := by
 revert h
 unfold Wh
 split; · simp
 split; · simp
 split
 ·split <;> simp
 split; · simp
 split; · simp
 split <;> simp
theorem Bno {b : List UInt8} (h : 32 ≤ b.length) (hl : b.length < 4611686018427387904) : Am (Ac b) 32 = ((b.length - 32 : Nat) : Int) ∧ Ce b ((b.length - 32 : Nat) : Int) (Ac b) = some (Br b) := by
 refine ⟨by rw [Ac, Bk (by omega) (by omega)]; omega, ?_⟩
 rw [Ng (by omega) (by omega)]; rfl
theorem Bli (b : List UInt8) (hl : b.length < 4611686018427387904) : Asj b = some (Wh b) := by
 rw [Asj, Ao2]
 by_cases h32 : 32 ≤ b.length
 ·obtain ⟨e1, e2⟩ := Bno h32 hl
  have hl3 := Bhl h32
  rw [if_neg (by rw [e1, Af]; simp), e1, e2, Aa, Am3, Aa]
  by_cases hp : (Br b).take 8 = APE
  ·have h := And.intro h32 hp
   rw [if_neg (by simpa [APE, hl3] using hp), Apc, Au2, e1, e2, Aa, Ana _ 0 (by omega) (by omega) (by decide), Aa]
   cases hb : Ae4 (Br b) with
   | true =>
    rw [ba2 h hb]
    simp only [if_true, Bool.false_eq_true, if_false]
    rw [Aa, Ana _ 2147483648 (by omega) (by omega) (by decide), Aa, hb]; rfl
   | false =>
    obtain ⟨i1, i2, i3, i4⟩ := Atv (Br b) (by omega) hb
    have eI : Es (part (Br b) 12 4) - 32 = itA (Br b) := rfl
    have eM : Es (part (Br b) 16 4) = mnA (Br b) := rfl
    simp only [Bool.false_eq_true, if_false]
    rw [eI] at i3
    rw [eM] at i4
    rw [eI, eM]
    by_cases c1 : Br b = My (itA (Br b)) (mnA (Br b)) 0
    ·have c1' : Br b = My (itA (Br b)) (mnA (Br b)) (0 : UInt64).toNat := c1
     rw [if_pos (by simpa using c1'), ba3 h hb c1]
     by_cases c2 : b.length < itA (Br b) + 32
     ·rw [if_pos (by rw [Af]; simp; omega), if_pos c2]
     ·rw [if_neg (by rw [Af]; simp; omega), if_neg c2, Ag (by omega) (by omega)]; rfl
    ·have c1' : ¬ Br b = My (itA (Br b)) (mnA (Br b)) (0 : UInt64).toNat := c1
     rw [if_neg (by simpa using c1'), Aa, Ana _ 2147483648 (by omega) (by omega) (by decide), Aa, hb]
     simp only [Bool.false_eq_true, if_false]
     rw [eI, eM]
     by_cases c2 : Br b = My (itA (Br b)) (mnA (Br b)) 2147483648
     ·have c2' : Br b = My (itA (Br b)) (mnA (Br b)) (2147483648 : UInt64).toNat := c2
      rw [if_neg (by simpa using c2'), Ag (by omega) (by omega)]
      by_cases c3 : b.length < itA (Br b) + 64
      ·rw [if_pos (by rw [Af, Ac]; simp; omega), ba5 h hb c1 c2 c3]
      ·rw [if_neg (by rw [Af, Ac]; simp; omega), Ac, Bk (by omega) (by omega), Ag (by omega) (by omega), Uj (by omega) (by omega) (by omega), Aa, Az0 _ _ _ i3 i4 (by decide), Aa, Gx, Aa, ba6 h hb c1 c2 c3]
       rw [show ((b.length : Int) - (((itA (Br b) : Nat) : Int) + 64)).toNat = b.length - (itA (Br b) + 64) by omega, show ((b.length : Int) - (((itA (Br b) : Nat) : Int) + 64) + 32).toNat = b.length - (itA (Br b) + 64) + 32 by omega]
       have e7 : (2684354560 : UInt64).toNat = 2684354560 := rfl
       rw [e7]
       by_cases c4 : (b.take (b.length - (itA (Br b) + 64) + 32)).drop (b.length - (itA (Br b) + 64)) = My (itA (Br b)) (mnA (Br b)) 2684354560
       ·rw [if_neg (by simpa using c4), if_neg (fun e => e c4)]; rfl
       ·rw [if_pos (by simpa using c4), if_pos c4]
     ·have c2' : ¬ Br b = My (itA (Br b)) (mnA (Br b)) (2147483648 : UInt64).toNat := c2
      rw [if_pos (by simpa using c2'), ba4 h hb c1 c2]
  ·rw [if_pos (by rw [Bool.not_eq_true', decide_eq_false_iff_not]; intro h; exact hp h.2), ba1 (fun h => hp h.2)]
 ·rw [if_pos (by rw [Ac, Bk (by omega) (by omega), Af]; simp; omega), ba1 (fun h => h32 h.1)]
theorem Brm {b : List UInt8} (h : 32 ≤ b.length) : (b.take (b.length - 32 + 8)).drop (b.length - 32) = (Br b).take 8 := by
 rw [Br, List.take_drop]
theorem Bqh (b : List UInt8) (hl : b.length < 4611686018427387904) : Vo b = some (Wh b) := by
 rw [Vo, Ww]
 by_cases h32 : 32 ≤ b.length
 ·obtain ⟨e1, e2⟩ := Bno h32 hl
  have hl3 := Bhl h32
  rw [if_neg (by rw [Af, Ac]; simp; omega), e1, Ag (by omega) (by omega), Uj (by omega) (by omega) (by omega), Aa, show ((b.length - 32 : Nat) : Int).toNat = b.length - 32 from rfl, show (((b.length - 32 : Nat) : Int) + 8).toNat = b.length - 32 + 8 by omega, Brm h32]
  by_cases hp : (Br b).take 8 = APE
  ·have h := And.intro h32 hp
   rw [if_neg (by simpa [APE] using hp), Wv, Oh, e1, e2, Aa, Bek _ (by omega) (by omega), Aa]
   cases hb : Ae4 (Br b) with
   | true => rw [ba2 h hb]; rfl
   | false =>
    obtain ⟨i1, i2, i3, i4⟩ := Atv (Br b) (by omega) hb
    have eI : Es (part (Br b) 12 4) - 32 = itA (Br b) := rfl
    have eM : Es (part (Br b) 16 4) = mnA (Br b) := rfl
    simp only [Bool.false_eq_true, if_false, Bool.not_true]
    rw [eI] at i3
    rw [eM] at i4
    rw [eI, eM, Eb, if_pos rfl, Asy _ _ _ i3 i4 (by decide), Aa, Aa]
    have e7 : (2147483648 : UInt64).toNat = 2147483648 := rfl
    have e8 : (2684354560 : UInt64).toNat = 2684354560 := rfl
    rw [e7]
    by_cases c2 : Br b = My (itA (Br b)) (mnA (Br b)) 2147483648
    ·have c1 : Br b ≠ My (itA (Br b)) (mnA (Br b)) 0 := fun e => Bu2 (itA (Br b)) (mnA (Br b)) (e.symm.trans c2)
     rw [if_neg (by simpa using c2), Ni, Nw, if_pos (by simpa using c2), Oc, Xc, Ag (a := 32) (by omega) (by omega), Ag (by omega) (by omega)]
     by_cases c3 : b.length < itA (Br b) + 64
     ·rw [if_pos (by rw [Af, Ac]; simp; omega), ba5 h hb c1 c2 c3]
     ·rw [if_neg (by rw [Af, Ac]; simp; omega), if_pos (by simpa using c2), Ac, Bk (by omega) (by omega), Ag (by omega) (by omega), Uj (by omega) (by omega) (by omega), Aa, Oj, Asy _ _ _ i3 i4 (by decide), Aa, Aa, ba6 h hb c1 c2 c3, e8]
      rw [show ((b.length : Int) - (32 + ((itA (Br b) : Nat) : Int) + 32)).toNat = b.length - (itA (Br b) + 64) by omega, show ((b.length : Int) - (32 + ((itA (Br b) : Nat) : Int) + 32) + 32).toNat = b.length - (itA (Br b) + 64) + 32 by omega]
      by_cases c4 : (b.take (b.length - (itA (Br b) + 64) + 32)).drop (b.length - (itA (Br b) + 64)) = My (itA (Br b)) (mnA (Br b)) 2684354560
      ·rw [if_neg (by simpa using c4), if_neg (fun e => e c4), show (32 + ((itA (Br b) : Nat) : Int) + 32) = ((itA (Br b) + 64 : Nat) : Int) by omega]
      ·rw [if_pos (by simpa using c4), if_pos c4]
    ·rw [if_pos (by simpa using c2), Eb, if_neg (by simp), Asy _ _ _ i3 i4 (by decide), Aa, Aa]
     have e9 : (0 : UInt64).toNat = 0 := rfl
     rw [e9]
     by_cases c1 : Br b = My (itA (Br b)) (mnA (Br b)) 0
     ·rw [if_neg (by simpa using c1), Ni, Nw, if_neg (by simpa using c2), Oc, Xc, Ag (by omega) (by omega), ba3 h hb c1, if_neg (c := (Br b == My (itA (Br b)) (mnA (Br b)) 2147483648) = true) (by simpa using c2)]
      by_cases c3 : b.length < itA (Br b) + 32
      ·rw [if_pos (by rw [Af, Ac]; simp; omega), if_pos c3]
      ·rw [if_neg (by rw [Af, Ac]; simp; omega), if_neg c3, show (32 + ((itA (Br b) : Nat) : Int)) = ((itA (Br b) + 32 : Nat) : Int) by omega]
     ·rw [if_pos (by simpa using c1), ba4 h hb c1 c2]
  ·rw [if_pos (by simpa [APE] using hp), ba1 (fun h => hp h.2)]
 ·rw [if_pos (by rw [Af, Ac]; simp; omega), ba1 (fun h => h32 h.1)]
def Bl2 : Nat → List UInt8 → Nat → Int × Int
 | 0, _, _ => (0, 38)
 | j + 1, b, a => if b = [] then ((a : Int), 0) else if (Wh b).2 ≠ 0 then (0, 38) else Bl2 j (b.take (b.length - (Wh b).1.toNat)) (a + 1)
theorem Bfh : ∀ (j q a : Nat) (b : List UInt8), b.length < j → j ≤ q → b.length ≤ 4000 → a + b.length ≤ 4000 → To q (a : Int) b = some (Bl2 j b a)
 | 0, _, _, _, h, _, _, _ => by omega
 | j + 1, q + 1, a, b, h, hq, h4, ha => by
  rw [To, Agd, Bl2]
  by_cases hb : b = []
  ·subst hb; rw [if_neg (by decide), if_pos rfl]; rfl
  ·have hpos : 0 < b.length := List.length_pos_iff.2 hb
   rw [if_pos (by rw [Au, Ac]; simp; omega), if_neg hb, Bli b (by omega), Aa]
   have hbad := Bna (b := b)
   have hok := fun n => Be1 (b := b) (n := n)
   generalize Wh b = v at *
   obtain ⟨n, e⟩ := v
   simp only at hbad ⊢
   rw [Ad0, Aeb]
   by_cases he : e ≠ 0
   ·rw [if_pos he, hbad he, if_pos (by decide)]
   ·obtain ⟨k1, k2⟩ := hok n (by rw [show e = 0 by simpa using he])
    rw [if_neg he, if_neg (by rw [Bg]; simp; omega), Ac, Bk (by omega) (by omega), Kt (by omega) (by omega), Aa, Ael, Al0, Ag (by omega) (by omega)]
    rw [show ((b.length : Int) - n).toNat = b.length - n.toNat by omega]
    have ih := Bfh j q (a + 1) (b.take (b.length - n.toNat)) (by rw [List.length_take]; omega) (by omega) (by rw [List.length_take]; omega) (by rw [List.length_take]; omega)
    rw [← ih]; rfl
theorem Bk2 : ∀ (j q a : Nat) (b : List UInt8), b.length < j → j ≤ q → b.length ≤ 4000 → a + b.length ≤ 4000 → Hp q b (a : Int) = some (Bl2 j b a)
 | 0, _, _, _, h, _, _, _ => by omega
 | j + 1, q + 1, a, b, h, hq, h4, ha => by
  rw [Hp, Rm, Bl2]
  by_cases hb : b = []
  ·subst hb; rw [if_neg (by decide), if_pos rfl]; rfl
  ·have hpos : 0 < b.length := List.length_pos_iff.2 hb
   rw [if_pos (by rw [Au, Ac]; simp; omega), if_neg hb, Bqh b (by omega), Aa]
   have hok := fun n => Be1 (b := b) (n := n)
   generalize Wh b = v at *
   obtain ⟨n, e⟩ := v
   simp only
   by_cases he : e ≠ 0
   ·rw [if_pos he, if_pos (by rw [Ah]; simpa using he)]
   ·obtain ⟨k1, k2⟩ := hok n (by rw [show e = 0 by simpa using he])
    rw [if_neg he, if_neg (by rw [Ah]; simpa using he), Ac, Bk (by omega) (by omega), Kt (by omega) (by omega), Aa, Ag (by omega) (by omega)]
    rw [show ((b.length : Int) - n).toNat = b.length - n.toNat by omega]
    have ih := Bk2 j q (a + 1) (b.take (b.length - n.toNat)) (by rw [List.length_take]; omega) (by omega) (by rw [List.length_take]; omega) (by rw [List.length_take]; omega)
    rw [← ih]; rfl
def Am2 (b : List UInt8) : Int × Int := if 4000 < b.length then (0, 38) else Bl2 (b.length + 1) b 0
theorem Bfz (b : List UInt8) (hl : b.length < 4611686018427387904) : Ahd b = some (Am2 b) := by
 rw [Ahd, Agj, Am2]
 by_cases h : 4000 < b.length
 ·rw [if_pos (by rw [Au, Ac]; simp; omega), if_pos h]
 ·rw [if_neg (by rw [Au, Ac]; simp; omega), if_neg h]
  exact Bfh _ Ba 0 b (by omega) (by have := Ap; omega) (by omega) (by omega)
theorem Bhs (b : List UInt8) (hl : b.length < 4611686018427387904) : Qd b = some (Am2 b) := by
 rw [Qd, Th, Am2]
 by_cases h : 4000 < b.length
 ·rw [if_pos (by rw [Au, Ac]; simp; omega), if_pos h]
 ·rw [if_neg (by rw [Au, Ac]; simp; omega), if_neg h]
  exact Bk2 _ Ba 0 b (by omega) (by have := Ap; omega) (by omega) (by omega)
end Go.Pl
set_option linter.unusedVariables false
set_option linter.unusedSimpArgs false
namespace Go.Pl
open Go Go.Lv
theorem Bot {a b : Nat} (h : a < 9223372036854775808) : Bs (a : Int) (b : Int) = ((a / b : Nat) : Int) := by
 have : a / b ≤ a := Nat.div_le_self _ _
 rw [Af8, Int.tdiv_eq_ediv_of_nonneg (by omega), ← Int.natCast_ediv]
 generalize a / b = k at *
 exact Cf (by omega) (by omega)
theorem Aui {bits : Int} (h : Dn bits) (x : Int) : (Ad2 bits x).length = wB bits := by
 obtain rfl | rfl | rfl := h <;> rfl
theorem Apb {bits : Int} (h : Dn bits) : ∀ l : List Int32, (bytesB bits l).length = l.length * wB bits
 | [] => by simp [bytesB]
 | x :: l => by
  have h1 := Apb h l
  have h2 := Aui h x.toInt
  simp only [bytesB, List.flatMap_cons, List.length_append, List.length_cons, Nat.succ_mul] at *
  omega
def segF (b : List UInt8) (A : Nat) (l : List Int) (k : Nat) : List UInt8 := (b.take ((A : Int) + (l.take (k + 1)).sum).toNat).drop ((A : Int) + (l.take k).sum).toNat
structure Gts (b p : List UInt8) (f c w r n A : Nat) (l : List Int) (k m : Nat) (x : List Int32) (s : List UInt8) (e : Int) : Prop where
 mom : getI (framesL (longN r) n) (k : Int) = some (m : Int)
 pos : 1 ≤ m ∧ m * c ≤ 4000
 got : cadenzaref40_Got b p (f : Int) (c : Int) (w : Int) (r : Int) (n : Int) (A : Int) l (k : Int) = some (s, e)
 none' : e ≠ 0 → s = [] ∧ x = []
 some' : e = 0 → s = bytesB (w : Int) x ∧ x.length = m * c ∧ cadenzaref18_Check (w : Int) x = some 0 ∧ width_Bytes (w : Int) x = some (s, 0) ∧ (A : Int) + (l.take (k + 1)).sum ≤ b.length
 way : ((b.length : Int) < (A : Int) + (l.take (k + 1)).sum ∧ e = 24) ∨ ((A : Int) + (l.take (k + 1)).sum ≤ b.length ∧ deframe_Decode (c : Int) (w : Int) (tapsOf p) (m : Int) (segF b A l k) = some (x, e) ∧ cadenzaref21_Decode (c : Int) (w : Int) (tapsOf p) (m : Int) (segF b A l k) = some (x, e))
theorem Xl {b p : List UInt8} {f c w r n A : Nat} {l : List Int} (o : Opn b p f c w r n A l) (k : Nat) (hk : k < l.length) : ∃ m x s e, Gts b p f c w r n A l k m x s e := by
 obtain ⟨hc, hw, hr, hn, _⟩ := Tp o.shape
 have hfit : n ≤ 4000 / c := by have := o.fit; simp only [fitB, decide_eq_true_eq] at this; exact this.1
 have hn4 : n ≤ 4000 := by have := Nat.div_le_self 4000 c; omega
 have hA := o.at'
 have hfile := o.file
 have hlen := o.len
 have b1 := Fw o.five k
 have b2 := Fw o.five (k + 1)
 have e := Pc hk
 have h5 := o.five l[k] (List.getElem_mem _)
 have hsum := o.sum
 have hs1 := o.some1
 have hkf : k < (framesL (longN r) n).length := by omega
 obtain ⟨m, hm, m1, m2⟩ := Baa (Alc r) hn (List.getElem_mem hkf)
 have hmom : getI (framesL (longN r) n) (k : Int) = some (m : Int) := by rw [Cq hkf, hm]
 have hpos : 1 ≤ m ∧ m * c ≤ 4000 := by
  refine ⟨m1, ?_⟩
  have := Nat.mul_le_mul_right c (Nat.le_trans m2 hfit)
  have := Nat.div_mul_le_self 4000 c
  omega
 have hR : cadenzaref40_Got b p (f : Int) (c : Int) (w : Int) (r : Int) (n : Int) (A : Int) l (k : Int) = cadenzaref40_Got b p (f : Int) (c : Int) (w : Int) (r : Int) (n : Int) (A : Int) l (k : Int) := rfl
 conv at hR => rhs; rw [cadenzaref40_Got, Km, Bbq hs1.2 o.five o.sum _ _ _ _ _ (A : Int) (by omega) (by omega) k (by omega), Aa, Cq hk, Aa, Bk (by rw [Ac]; omega) (by rw [Ac]; omega)]
 by_cases hto : (b.length : Int) < (A : Int) + (l.take (k + 1)).sum
 ·rw [if_pos (by rw [Af, Ac, decide_eq_true_eq]; omega)] at hR
  exact ⟨m, [], [], 24, hmom, hpos, hR, fun _ => ⟨rfl, rfl⟩, fun h => by simp at h, .inl ⟨hto, rfl⟩⟩
 ·rw [if_neg (by rw [Af, Ac, decide_eq_true_eq]; omega), Ax1 p o.pass, Ahy hr.2 hn hn4] at hR
  simp only [Aa] at hR
  rw [Ag (a := (A : Int) + (l.take k).sum) (b := l[k]) (by omega) (by omega), Int.add_assoc, ← e, hmom] at hR
  simp only [Aa] at hR
  rw [Uj (by omega) (by omega) (by omega), Aa] at hR
  obtain ⟨x, er, g1, g2, g3, g4⟩ := Avx (ch := c) (n := m) (t := tapsOf p) (segF b A l k) hw (Aw6 p) hc.1 hc.2 m1 (by omega)
  rw [show (b.take ((A : Int) + (l.take (k + 1)).sum).toNat).drop ((A : Int) + (l.take k).sum).toNat = segF b A l k from rfl, g2, Aa] at hR
  simp only at hR
  rw [Pu, Yl] at hR
  by_cases her : er = 0
  ·obtain ⟨g5, g6, g7⟩ := g3 her
   rw [if_neg (by rw [Ah]; simpa using her), Baz hw g6 g5, Aa] at hR
   subst her
   exact ⟨m, x, _, 0, hmom, hpos, hR, fun h => absurd rfl h, fun _ => ⟨rfl, g7, g5, Azx hw g6 g5, by omega⟩, .inr ⟨by omega, g1, g2⟩⟩
  ·rw [if_pos (by rw [Ah]; simpa using her)] at hR
   exact ⟨m, x, _, er, hmom, hpos, hR, fun h => ⟨rfl, g4 h⟩, fun h => absurd h her, .inr ⟨by omega, g1, g2⟩⟩
theorem Gts.len {b p : List UInt8} {f c w r n A : Nat} {l : List Int} {k m : Nat} {x : List Int32} {s : List UInt8} {e : Int} (hw : Dn (w : Int)) (g : Gts b p f c w r n A l k m x s e) : s.length ≤ 12000 ∧ x.length ≤ 4000 ∧ (e = 0 → s.length = m * c * wB (w : Int)) := by
 by_cases he : e = 0
 ·obtain ⟨h1, h2, _⟩ := g.some' he
  have h3 := Anh (w : Int) x
  have h4 := Apb hw x
  have h5 := g.pos
  rw [← h1] at h3 h4
  refine ⟨by omega, by omega, fun _ => by rw [h4, h2]⟩
 ·obtain ⟨h1, h2⟩ := g.none' he
  exact ⟨by simp [h1], by simp [h2], fun h => absurd h he⟩
def On (b p : List UInt8) (f c w r n A : Nat) (l : List Int) (k : Nat) : List UInt8 × Int := (cadenzaref40_Got b p (f : Int) (c : Int) (w : Int) (r : Int) (n : Int) (A : Int) l (k : Int)).getD ([], 0)
theorem Gts.eq {b p : List UInt8} {f c w r n A : Nat} {l : List Int} {k m : Nat} {x : List Int32} {s : List UInt8} {e : Int} (g : Gts b p f c w r n A l k m x s e) : On b p f c w r n A l k = (s, e) := by rw [On, g.got]; rfl
def Bmh (b : List UInt8) (A : Nat) (l : List Int) : Int := (Am2 (b.drop ((A : Int) + l.sum).toNat)).2
section
variable {b p : List UInt8} {f c w r n A : Nat} {l : List Int} (o : Opn b p f c w r n A l)
include o
end
end Go.Pl
set_option linter.unusedVariables false
set_option linter.unusedSimpArgs false
namespace Go.Pl
open Go Go.Lv
def Pn (b : List UInt8) (k : Nat) : Nat := (b.getD k 0).toNat
theorem Aq0 (b : List UInt8) (k : Nat) : Pn b k < 256 := (b.getD k 0).toNat_lt
def sx (n : Nat) (b : List UInt8) (a : Nat) : Int :=
 if n = 1 then (Pn b a : Int) - 128 else
 if n = 2 then (if Pn b a + 256 * Pn b (a + 1) < 32768 then (Pn b a + 256 * Pn b (a + 1) : Nat) else ((Pn b a + 256 * Pn b (a + 1) : Nat) : Int) - 65536) else
 (if Pn b a + 256 * Pn b (a + 1) + 65536 * Pn b (a + 2) < 8388608 then (Pn b a + 256 * Pn b (a + 1) + 65536 * Pn b (a + 2) : Nat) else ((Pn b a + 256 * Pn b (a + 1) + 65536 * Pn b (a + 2) : Nat) : Int) - 16777216)
def sxs (n m : Nat) (b : List UInt8) : List Int32 := (List.range m).map fun x => Int32.ofInt (sx n b (x * n))
theorem Awc (n m : Nat) (b : List UInt8) : (sxs n m b).length = m := by simp [sxs]
theorem Bg3 (n m : Nat) (b : List UInt8) : sxs n (m + 1) b = sxs n m b ++ [Int32.ofInt (sx n b (m * n))] := by simp [sxs, List.range_succ]
theorem Atn {n : Int} (h : -2147483648 ≤ n) (h' : n < 2147483648) : (Int32.ofInt n).toInt = n := by
 rw [Int32.toInt_ofInt, Int.bmod_def, show ((Int32.size : Nat) : Int) = 4294967296 from rfl]; split <;> omega
theorem Am0 {b : List UInt8} {k : Nat} (h : k < b.length) : getI b (k : Int) = some (b.getD k 0) := by
 rw [Cq h]; simp [List.getD_eq_getElem?_getD, h]
theorem Aic (c : UInt8) : (Ad c : Int32) = Int32.ofInt (c.toNat : Int) := rfl
theorem Aut {v : Nat} (k : Nat) (hk : k ≤ 32) (h : v < 2147483648) : Eo (Int32.ofInt (v : Int)) k = Int32.ofInt ((v * 2 ^ k : Nat) : Int) := by
 have e : Eo (Int32.ofInt (v : Int)) k = Int32.ofInt ((Int32.ofInt (v : Int)).toInt * 2 ^ min k 32) := rfl
 rw [e, Atn (by omega) (by omega), Nat.min_eq_left hk]; simp
theorem Br7 {v w i : Nat} (hv : v < 2 ^ i) (hw : w * 2 ^ i < 2147483648) (hi : i ≤ 31) : gor (Int32.ofInt (v : Int)) (Int32.ofInt ((w * 2 ^ i : Nat) : Int)) = Int32.ofInt ((v + w * 2 ^ i : Nat) : Int) := by
 have hv2 : v < 2147483648 := Nat.lt_of_lt_of_le hv (show 2 ^ i ≤ 2 ^ 31 from Nat.pow_le_pow_right (by omega) hi)
 have e : gor (Int32.ofInt (v : Int)) (Int32.ofInt ((w * 2 ^ i : Nat) : Int)) = Int32.ofInt ((BitVec.ofInt 32 (Int32.ofInt (v : Int)).toInt ||| BitVec.ofInt 32 (Int32.ofInt ((w * 2 ^ i : Nat) : Int)).toInt).toNat : Int) := rfl
 rw [e, Atn (by omega) (by omega), Atn (by omega) (by omega), BitVec.toNat_or, BitVec.toNat_ofInt, BitVec.toNat_ofInt]
 have a1 : ((v : Int) % ((2 ^ 32 : Nat) : Int)).toNat = v := by omega
 have a2 : (((w * 2 ^ i : Nat) : Int) % ((2 ^ 32 : Nat) : Int)).toNat = w * 2 ^ i := by omega
 rw [a1, a2, Nat.or_comm, Nat.mul_comm w, ← Nat.two_pow_add_eq_or_of_lt hv, Nat.add_comm]
theorem Ba1 (w : Nat) (h : w < 2147483648) : gor (0 : Int32) (Int32.ofInt (w : Int)) = Int32.ofInt (w : Int) := by
 have := Br7 (v := 0) (w := w) (i := 0) (by simp) (by simpa using h) (by omega)
 simpa using this
theorem carry {v k : Nat} (hk : k ≤ 31) (h : v * 2 ^ k < 4294967296) (hv : v < 2147483648) : Db (Eo (Int32.ofInt (v : Int)) k) k = Int32.ofInt ((if v * 2 ^ k < 2147483648 then ((v * 2 ^ k : Nat) : Int) else ((v * 2 ^ k : Nat) : Int) - 4294967296).fdiv (2 ^ k)) := by
 rw [Aut k (by omega) hv]
 have e : ∀ x : Int32, Db x k = Int32.ofInt (x.toInt.fdiv (2 ^ min k 32)) := fun _ => rfl
 have hX : (Int32.ofInt ((v * 2 ^ k : Nat) : Int)).toInt = if v * 2 ^ k < 2147483648 then ((v * 2 ^ k : Nat) : Int) else ((v * 2 ^ k : Nat) : Int) - 4294967296 := by
  rw [Int32.toInt_ofInt, Int.bmod_def, show ((Int32.size : Nat) : Int) = 4294967296 from rfl]
  generalize v * 2 ^ k = X at *
  split <;> split <;> omega
 rw [e, Nat.min_eq_left (by omega), hX]
theorem sx2 (b : List UInt8) (a : Nat) : sx 2 b a = if Pn b a + 256 * Pn b (a + 1) < 32768 then ((Pn b a + 256 * Pn b (a + 1) : Nat) : Int) else ((Pn b a + 256 * Pn b (a + 1) : Nat) : Int) - 65536 := rfl
theorem sx3 (b : List UInt8) (a : Nat) : sx 3 b a = if Pn b a + 256 * Pn b (a + 1) + 65536 * Pn b (a + 2) < 8388608 then ((Pn b a + 256 * Pn b (a + 1) + 65536 * Pn b (a + 2) : Nat) : Int) else ((Pn b a + 256 * Pn b (a + 1) + 65536 * Pn b (a + 2) : Nat) : Int) - 16777216 := rfl
variable (b : List UInt8)
theorem Bvr (bk : Int → List Int32 → Option (List Int32 × Int)) (a : Nat) (acc : List Int32) (h : a + 1 ≤ b.length) (hl : b.length ≤ 100000) (ha : acc.length ≤ 100000) (j25 : Int → List Int32 → Int32 → Int → Option (List Int32 × Int)) (j30 : List Int32 → Option (List Int32 × Int)) :
  Eu (Hl bk 8 b) j25 j30 8 b (a : Int) acc = bk ((a + 1 : Nat) : Int) (acc ++ [Int32.ofInt (sx 1 b a)]) := by
 have hb := Aq0 b a
 have e : Am (Ad (b.getD a 0) : Int32) (128 : Int32) = Int32.ofInt (sx 1 b a) := by
  have e1 : Am (Ad (b.getD a 0) : Int32) (128 : Int32) = Int32.ofInt ((Int32.ofInt ((b.getD a 0).toNat : Int)).toInt - (128 : Int32).toInt) := rfl
  rw [e1, Atn (by omega) (by have := (b.getD a 0).toNat_lt; omega)]; rfl
 have q8 : Bs (8 : Int) 8 = 1 := by decide
 rw [Eu, if_pos (by rw [Af, Ac]; simp; omega), if_pos (by rw [Bg]; rfl), Am0 (by omega), Aa, e, Dc (by simp; omega), Aa, Hl, Vt, q8, Ag (by omega) (by omega)]; rfl
theorem Bu8 (bk : Int → List Int32 → Option (List Int32 × Int)) (a : Nat) (acc : List Int32) (h : a + 2 ≤ b.length) (hl : b.length ≤ 100000) (ha : acc.length ≤ 100000) (j28 : Int → List Int32 → Option (List Int32 × Int)) (j30 : List Int32 → Option (List Int32 × Int)) :
  Eu j28 (Jv bk 16 b) j30 16 b (a : Int) acc = bk ((a + 2 : Nat) : Int) (acc ++ [Int32.ofInt (sx 2 b a)]) := by
 have h0 := Aq0 b a
 have h1 := Aq0 b (a + 1)
 have q : Bs (16 : Int) 8 = 2 := by decide
 have hF : Ba = (Ba - 3) + 1 + 1 + 1 := by have := Ap; omega
 have z0 : (GI.toZ (Bj (8 : Int) 0)).toNat = 0 := by decide
 have z1 : (GI.toZ (Bj (8 : Int) 1)).toNat = 8 := by decide
 have z16 : (GI.toZ (Am (32 : Int) 16)).toNat = 16 := by decide
 have s0 : Eo (Int32.ofInt (Pn b a : Int)) 0 = Int32.ofInt (Pn b a : Int) := by have := Aut (v := Pn b a) 0 (by omega) (by omega); simpa using this
 have s1 : Eo (Int32.ofInt (Pn b (a + 1) : Int)) 8 = Int32.ofInt ((Pn b (a + 1) * 2 ^ 8 : Nat) : Int) := Aut 8 (by omega) (by omega)
 have o1 := Br7 (v := Pn b a) (w := Pn b (a + 1)) (i := 8) (by simpa using h0) (by omega) (by omega)
 have c := carry (v := Pn b a + Pn b (a + 1) * 2 ^ 8) (k := 16) (by omega) (by omega) (by omega)
 rw [Eu, if_pos (by rw [Af, Ac]; simp; omega), if_neg (by rw [Bg]; decide), Jv, hF, Ea, Ex, q, if_pos (by decide), show Ae (a : Int) 0 = ((a : Nat) : Int) by rw [Ag (by omega) (by omega)]; omega, Am0 (by omega), Aa, Bu (by decide), Aa, z0,
  Aic, show ((b.getD a 0).toNat : Int) = (Pn b a : Int) from rfl, s0, Ba1 _ (by omega), show Ae (0 : Int) 1 = 1 by decide,
  Ea, Ex, q, if_pos (by decide), show Ae (a : Int) 1 = ((a + 1 : Nat) : Int) by rw [Ag (by omega) (by omega)]; omega, Am0 (by omega), Aa, Bu (by decide), Aa, z1,
  Aic, show ((b.getD (a + 1) 0).toNat : Int) = (Pn b (a + 1) : Int) from rfl, s1, o1, show Ae (1 : Int) 1 = 2 by decide,
  Ea, Ex, q, if_neg (by decide), Vi, Vf, Bu (by decide), Aa, Aa, z16, c, Dc (by simp; omega), Aa, Hl, Vt, q, Ag (by omega) (by omega)]
 have e : ((if (Pn b a + Pn b (a + 1) * 2 ^ 8) * 2 ^ 16 < 2147483648 then (((Pn b a + Pn b (a + 1) * 2 ^ 8) * 2 ^ 16 : Nat) : Int) else (((Pn b a + Pn b (a + 1) * 2 ^ 8) * 2 ^ 16 : Nat) : Int) - 4294967296).fdiv (2 ^ 16)) = sx 2 b a := by
  rw [Int.fdiv_eq_ediv_of_nonneg _ (by omega), sx2]
  split <;> split <;> omega
 rw [e]; rfl
theorem Bt1 (bk : Int → List Int32 → Option (List Int32 × Int)) (a : Nat) (acc : List Int32) (h : a + 3 ≤ b.length) (hl : b.length ≤ 100000) (ha : acc.length ≤ 100000) (j28 : Int → List Int32 → Option (List Int32 × Int)) (j30 : List Int32 → Option (List Int32 × Int)) :
  Eu j28 (Jv bk 24 b) j30 24 b (a : Int) acc = bk ((a + 3 : Nat) : Int) (acc ++ [Int32.ofInt (sx 3 b a)]) := by
 have h0 := Aq0 b a
 have h1 := Aq0 b (a + 1)
 have h2 := Aq0 b (a + 2)
 have q : Bs (24 : Int) 8 = 3 := by decide
 have hF : Ba = (Ba - 4) + 1 + 1 + 1 + 1 := by have := Ap; omega
 have z0 : (GI.toZ (Bj (8 : Int) 0)).toNat = 0 := by decide
 have z1 : (GI.toZ (Bj (8 : Int) 1)).toNat = 8 := by decide
 have z2 : (GI.toZ (Bj (8 : Int) 2)).toNat = 16 := by decide
 have z8 : (GI.toZ (Am (32 : Int) 24)).toNat = 8 := by decide
 have s0 : Eo (Int32.ofInt (Pn b a : Int)) 0 = Int32.ofInt (Pn b a : Int) := by have := Aut (v := Pn b a) 0 (by omega) (by omega); simpa using this
 have s1 : Eo (Int32.ofInt (Pn b (a + 1) : Int)) 8 = Int32.ofInt ((Pn b (a + 1) * 2 ^ 8 : Nat) : Int) := Aut 8 (by omega) (by omega)
 have s2 : Eo (Int32.ofInt (Pn b (a + 2) : Int)) 16 = Int32.ofInt ((Pn b (a + 2) * 2 ^ 16 : Nat) : Int) := Aut 16 (by omega) (by omega)
 have o1 := Br7 (v := Pn b a) (w := Pn b (a + 1)) (i := 8) (by simpa using h0) (by omega) (by omega)
 have o2 := Br7 (v := Pn b a + Pn b (a + 1) * 2 ^ 8) (w := Pn b (a + 2)) (i := 16) (by omega) (by omega) (by omega)
 have c := carry (v := Pn b a + Pn b (a + 1) * 2 ^ 8 + Pn b (a + 2) * 2 ^ 16) (k := 8) (by omega) (by omega) (by omega)
 rw [Eu, if_pos (by rw [Af, Ac]; simp; omega), if_neg (by rw [Bg]; decide), Jv, hF, Ea, Ex, q, if_pos (by decide), show Ae (a : Int) 0 = ((a : Nat) : Int) by rw [Ag (by omega) (by omega)]; omega, Am0 (by omega), Aa, Bu (by decide), Aa, z0,
  Aic, show ((b.getD a 0).toNat : Int) = (Pn b a : Int) from rfl, s0, Ba1 _ (by omega), show Ae (0 : Int) 1 = 1 by decide,
  Ea, Ex, q, if_pos (by decide), show Ae (a : Int) 1 = ((a + 1 : Nat) : Int) by rw [Ag (by omega) (by omega)]; omega, Am0 (by omega), Aa, Bu (by decide), Aa, z1,
  Aic, show ((b.getD (a + 1) 0).toNat : Int) = (Pn b (a + 1) : Int) from rfl, s1, o1, show Ae (1 : Int) 1 = 2 by decide,
  Ea, Ex, q, if_pos (by decide), show Ae (a : Int) 2 = ((a + 2 : Nat) : Int) by rw [Ag (by omega) (by omega)]; omega, Am0 (by omega), Aa, Bu (by decide), Aa, z2,
  Aic, show ((b.getD (a + 2) 0).toNat : Int) = (Pn b (a + 2) : Int) from rfl, s2, o2, show Ae (2 : Int) 1 = 3 by decide,
  Ea, Ex, q, if_neg (by decide), Vi, Vf, Bu (by decide), Aa, Aa, z8, c, Dc (by simp; omega), Aa, Hl, Vt, q, Ag (by omega) (by omega)]
 have e : ((if (Pn b a + Pn b (a + 1) * 2 ^ 8 + Pn b (a + 2) * 2 ^ 16) * 2 ^ 8 < 2147483648 then (((Pn b a + Pn b (a + 1) * 2 ^ 8 + Pn b (a + 2) * 2 ^ 16) * 2 ^ 8 : Nat) : Int) else (((Pn b a + Pn b (a + 1) * 2 ^ 8 + Pn b (a + 2) * 2 ^ 16) * 2 ^ 8 : Nat) : Int) - 4294967296).fdiv (2 ^ 8)) = sx 3 b a := by
  rw [Int.fdiv_eq_ediv_of_nonneg _ (by omega), sx3]
  split <;> split <;> omega
 rw [e]; rfl
theorem Atb (bits : Int) (n m : Nat) (hn : 1 ≤ n) (hm : b.length = m * n) (hl : b.length ≤ 100000) (step : ∀ (q a : Nat) (acc : List Int32), a + n ≤ b.length → acc.length ≤ 100000 → Di bits b (q + 1) (a : Int) acc = Di bits b q ((a + n : Nat) : Int) (acc ++ [Int32.ofInt (sx n b a)])) :
  ∀ (j x q : Nat), x + j = m → j < q → Di bits b q ((x * n : Nat) : Int) (sxs n x b) = some (sxs n m b, 0)
 | 0, x, q + 1, hx, _ => by
  obtain rfl : x = m := by omega
  rw [Di, Eu, if_neg (by rw [Af, Ac]; simp; omega)]; rfl
 | j + 1, x, q + 1, hx, hq => by
  have h1 : (x + 1) * n ≤ m * n := Nat.mul_le_mul_right n (by omega)
  rw [Nat.add_mul, Nat.one_mul] at h1
  have h2 : m ≤ m * n := Nat.le_mul_of_pos_right m hn
  rw [step q (x * n) _ (by omega) (by rw [Awc]; omega), ← Bg3, show x * n + n = (x + 1) * n by rw [Nat.add_mul, Nat.one_mul]]
  exact Atb bits n m hn hm hl step j (x + 1) q (by omega) (by omega)
theorem Bvs {bits : Int} (h : Dn bits) (hl : b.length ≤ 100000) (q a : Nat) (acc : List Int32) (ha : a + wB bits ≤ b.length) (hc : acc.length ≤ 100000) :
  Di bits b (q + 1) (a : Int) acc = Di bits b q ((a + wB bits : Nat) : Int) (acc ++ [Int32.ofInt (sx (wB bits) b a)]) := by
 rw [Di]
 obtain rfl | rfl | rfl := h
 ·exact Bvr b _ a acc ha hl hc _ _
 ·exact Bu8 b _ a acc ha hl hc _ _
 ·exact Bt1 b _ a acc ha hl hc _ _
theorem Bdw {bits : Int} (h : Dn bits) {m : Nat} (hm : b.length = m * wB bits) (h4 : m ≤ 4000) : Zi bits b = some (sxs (wB bits) m b, 0) := by
 have hn := Au6 bits
 have hl : b.length ≤ 12000 := by rw [hm]; exact Nat.mul_le_mul h4 hn.2
 rw [Zi, Ad8, Bdm h, Aa]
 simp only
 rw [if_neg (by rw [Ah]; simp), Aud h, Bu (by rw [Ah]; simp; omega), Aa]
 have hr : Jd (Ac b) (wB bits : Int) = 0 := by rw [Ac, Ar7, hm, Nat.mul_mod_left]; rfl
 have hq : Bs (Ac b) (wB bits : Int) = (m : Int) := by rw [Ac, Bot (by omega), hm, Nat.mul_div_cancel _ (by omega)]
 rw [if_neg (by rw [Ah, hr]; simp), Aa, hq, if_neg (by rw [Au]; simp; omega), Abq]
 have := Atb b bits (wB bits) m (by omega) hm (by omega) (fun q a acc ha hc => Bvs b h (by omega) q a acc ha hc) m 0 Ba (by omega) (by have := Ap; omega)
 simpa [sxs] using this
theorem Br0 {bits : Int} (h : Dn bits) (hl : b.length ≤ 100000) (q a : Nat) (acc : List Int32) (ha : a + wB bits ≤ b.length) (hc : acc.length ≤ 100000) :
  Cb bits b (hB bits) (q + 1) (a : Int) acc = Cb bits b (hB bits) q ((a + wB bits : Nat) : Int) (acc ++ [Int32.ofInt (sx (wB bits) b a)]) := by
 have h0 := Aq0 b a
 have h1 := Aq0 b (a + 1)
 have h2 := Aq0 b (a + 2)
 have gc : ∀ k, (Ad (b.getD k 0) : Int) = (Pn b k : Int) := fun k => Aeo _
 have gx : ∀ z : Int, (Ad z : Int32) = Int32.ofInt z := fun z => rfl
 have hF : Ba = (Ba - 7) + 1 + 1 + 1 + 1 + 1 + 1 + 1 := by have := Ap; omega
 have hw1 : wB bits = 1 ∨ wB bits = 2 ∨ wB bits = 3 := by have := Au6 bits; omega
 have hend : ∀ (bk : Int → List Int32 → Option (List Int32 × Int)) (z : Int), 0 ≤ z → z < 2 * hB bits → z = (if bits = 8 then (Pn b a : Int) else if bits = 16 then ((Pn b a + 256 * Pn b (a + 1) : Nat) : Int) else ((Pn b a + 256 * Pn b (a + 1) + 65536 * Pn b (a + 2) : Nat) : Int)) →
   Gl bk bits b (hB bits) (a : Int) z acc = bk ((a + wB bits : Nat) : Int) (acc ++ [Int32.ofInt (sx (wB bits) b a)]) := by
  intro bk z z0 z1 z2
  rw [Gl, Pg]
  have e28 : ∀ acc2, Iw bk bits b (hB bits) (a : Int) acc2 = bk ((a + wB bits : Nat) : Int) acc2 := by
   intro acc2
   rw [Iw, Zj, Aud h, Ag (by omega) (by omega)]; rfl
  simp only [e28]
  obtain rfl | rfl | rfl := h
  ·rw [if_pos (by decide), Bk (by omega) (by simp [hB] at z1; omega), Dc (by simp; omega), Aa, gx, z2]; rfl
  ·rw [if_neg (by decide)]
   have e9 : hB 16 = 32768 := rfl
   rw [e9] at z1 ⊢
   simp only [show ¬ (16 : Int) = 8 by decide, if_false, if_true] at z2
   have e10 : wB 16 = 2 := rfl
   rw [e10, sx2]
   by_cases hz : 32768 ≤ z
   ·rw [if_pos (by rw [Dz]; simpa using hz), Gt (by omega) (by omega), Bk (by omega) (by omega), Dc (by simp; omega), Aa, gx, if_neg (by omega), z2]; rfl
   ·rw [if_neg (by rw [Dz]; simpa using hz), Dc (by simp; omega), Aa, gx, if_pos (by omega), z2]
  ·rw [if_neg (by decide)]
   have e9 : hB 24 = 8388608 := rfl
   rw [e9] at z1 ⊢
   simp only [show ¬ (24 : Int) = 8 by decide, show ¬ (24 : Int) = 16 by decide, if_false] at z2
   have e10 : wB 24 = 3 := rfl
   rw [e10, sx3]
   by_cases hz : 8388608 ≤ z
   ·rw [if_pos (by rw [Dz]; simpa using hz), Gt (by omega) (by omega), Bk (by omega) (by omega), Dc (by simp; omega), Aa, gx, if_neg (by omega), z2]; rfl
   ·rw [if_neg (by rw [Dz]; simpa using hz), Dc (by simp; omega), Aa, gx, if_pos (by omega), z2]
 have step : ∀ (bk : Int → List Int32 → Option (List Int32 × Int)) (q2 : Nat) (k : Int) (i : Nat), a + i < b.length → 0 ≤ k → k < 65536 → Cy bk bits b (hB bits) (a : Int) acc (q2 + 1) k (i : Int) = Cy bk bits b (hB bits) (a : Int) acc q2 (256 * k + (Pn b (a + i) : Int)) ((i : Int) - 1) := by
  intro bk q2 k i hi hk hk2
  have := Aq0 b (a + i)
  rw [Cy, Iz, if_pos (by rw [Dz]; simp), Ag (a := (a : Int)) (by omega) (by omega), show (a : Int) + (i : Int) = ((a + i : Nat) : Int) by omega, Am0 (by omega), Aa, gc, Gt (by omega) (by omega), Ag (by omega) (by omega), Bk (by omega) (by omega)]
 have last : ∀ (bk : Int → List Int32 → Option (List Int32 × Int)) (q2 : Nat) (k : Int), Cy bk bits b (hB bits) (a : Int) acc (q2 + 1) k (-1) = Gl bk bits b (hB bits) (a : Int) k acc := by
  intro bk q2 k
  rw [Cy, Iz, if_neg (by rw [Dz]; decide)]
 rw [Cb, Ix, if_pos (by rw [Af, Ac]; simp; omega), Pk, hF]
 generalize Cb bits b (hB bits) q = bk at *
 have hwq := Aud h
 rw [hwq, Bk (by omega) (by omega)]
 obtain rfl | rfl | rfl := h
 ·have e10 : wB 8 = 1 := rfl
  rw [e10] at ha ⊢
  rw [show (((1 : Nat) : Int) - 1) = ((0 : Nat) : Int) by omega, step _ _ 0 0 (by omega) (by omega) (by omega), show (((0 : Nat) : Int) - 1) = -1 by omega, last]
  exact hend bk _ (by omega) (by simp [hB]; omega) (by simp)
 ·have e10 : wB 16 = 2 := rfl
  rw [e10] at ha ⊢
  rw [show (((2 : Nat) : Int) - 1) = ((1 : Nat) : Int) by omega, step _ _ 0 1 (by omega) (by omega) (by omega), show (((1 : Nat) : Int) - 1) = ((0 : Nat) : Int) by omega, step _ _ _ 0 (by omega) (by omega) (by omega), show (((0 : Nat) : Int) - 1) = -1 by omega, last]
  exact hend bk _ (by omega) (by simp [hB]; omega) (by simp; omega)
 ·have e10 : wB 24 = 3 := rfl
  rw [e10] at ha ⊢
  rw [show (((3 : Nat) : Int) - 1) = ((2 : Nat) : Int) by omega, step _ _ 0 2 (by omega) (by omega) (by omega), show (((2 : Nat) : Int) - 1) = ((1 : Nat) : Int) by omega, step _ _ _ 1 (by omega) (by omega) (by omega), show (((1 : Nat) : Int) - 1) = ((0 : Nat) : Int) by omega, step _ _ _ 0 (by omega) (by omega) (by omega), show (((0 : Nat) : Int) - 1) = -1 by omega, last]
  exact hend bk _ (by omega) (by simp [hB]; omega) (by simp; omega)
theorem Al1 {bits : Int} (h : Dn bits) {m : Nat} (hm : b.length = m * wB bits) (hl : b.length ≤ 100000) :
  ∀ (j x q : Nat), x + j = m → j < q → Cb bits b (hB bits) q ((x * wB bits : Nat) : Int) (sxs (wB bits) x b) = some (sxs (wB bits) m b, 0)
 | 0, x, q + 1, hx, _ => by
  obtain rfl : x = m := by omega
  rw [Cb, Ix, if_neg (by rw [Af, Ac]; simp; omega)]; rfl
 | j + 1, x, q + 1, hx, hq => by
  have hn := Au6 bits
  have h1 : (x + 1) * wB bits ≤ m * wB bits := Nat.mul_le_mul_right _ (by omega)
  rw [Nat.add_mul, Nat.one_mul] at h1
  have h2 : m ≤ m * wB bits := Nat.le_mul_of_pos_right m hn.1
  rw [Br0 b h hl q (x * wB bits) _ (by omega) (by rw [Awc]; omega), ← Bg3, show x * wB bits + wB bits = (x + 1) * wB bits by rw [Nat.add_mul, Nat.one_mul]]
  exact Al1 h hm hl j (x + 1) q (by omega) (by omega)
theorem Bgd {bits : Int} (h : Dn bits) {m : Nat} (hm : b.length = m * wB bits) (h4 : m ≤ 4000) : Jg bits b = some (sxs (wB bits) m b, 0) := by
 have hn := Au6 bits
 have hl : b.length ≤ 12000 := by rw [hm]; exact Nat.mul_le_mul h4 hn.2
 have hpos := Aun bits
 rw [Jg, Qk, Ay0 h, Aa, if_neg (by rw [Bg]; simp; omega), Aud h, Bu (by rw [Ah]; simp; omega), Aa]
 have hr : Jd (Ac b) (wB bits : Int) = 0 := by rw [Ac, Ar7, hm, Nat.mul_mod_left]; rfl
 have hq : Bs (Ac b) (wB bits : Int) = (m : Int) := by rw [Ac, Bot (by omega), hm, Nat.mul_div_cancel _ (by omega)]
 rw [if_neg (by rw [Au, hr]; simp), Aa, hq, if_neg (by rw [Au]; simp; omega), Oo]
 have := Al1 b h hm (by omega) m 0 Ba (by omega) (by have := Ap; omega)
 simpa [sxs] using this
end Go.Pl
set_option linter.unusedVariables false
set_option linter.unusedSimpArgs false
namespace Go.Pl
open Go Go.Lv
section
variable {b p : List UInt8} {f c w r n A : Nat} {l : List Int} (o : Opn b p f c w r n A l)
include o
end
end Go.Pl
set_option linter.unusedVariables false
set_option linter.unusedSimpArgs false
namespace Go.Pl
open Go Go.Lv
section
variable {b p : List UInt8} {f c w r n A : Nat} {l : List Int} (o : Opn b p f c w r n A l)
include o
theorem Bmu {k m : Nat} {x : List Int32} {s : List UInt8} {e : Int} (hk : k < l.length) (g : Gts b p f c w r n A l k m x s e) : Abu b p (k : Int) = some (s, e) := by
 obtain ⟨y, h1, h2⟩ := Blq o k hk
 rw [Bg2 o, h1, ← g.got, h2]
end
def Aqt (G : Nat → List UInt8 × Int) : Nat → Nat → List Int → List Int
 | 0, _, acc => acc
 | j + 1, k, acc => Aqt G j (k + 1) (if (G k).2 ≠ 0 then acc ++ [(k : Int)] else acc)
theorem Axh (G : Nat → List UInt8 × Int) : ∀ (j k : Nat) (acc : List Int), (Aqt G j k acc).length ≤ acc.length + j
 | 0, k, acc => by simp [Aqt]
 | j + 1, k, acc => by
  have := Axh G j (k + 1) (if (G k).2 ≠ 0 then acc ++ [(k : Int)] else acc)
  rw [Aqt]
  by_cases h : (G k).2 ≠ 0
  ·rw [if_pos h] at this ⊢; rw [List.length_append] at this; simp at this; omega
  ·rw [if_neg h] at this ⊢; omega
def smF (w : Nat) (y : List UInt8 × Int) : List Int32 := if y.2 ≠ 0 then [] else sxs (wB (w : Int)) (y.1.length / wB (w : Int)) y.1
def Baf (w : Nat) (G : Nat → List UInt8 × Int) : Nat → Nat → List (List Int32) → List (List Int32)
 | 0, _, acc => acc
 | j + 1, k, acc => Baf w G j (k + 1) (acc ++ [smF w (G k)])
section
variable {b p : List UInt8} {f c w r n A : Nat} {l : List Int} (o : Opn b p f c w r n A l)
include o
theorem Afl {k m : Nat} {x : List Int32} {s : List UInt8} (g : Gts b p f c w r n A l k m x s 0) : Zi (w : Int) s = some (smF w (s, 0), 0) ∧ Jg (w : Int) s = some (smF w (s, 0), 0) ∧ (smF w (s, 0)).length = m * c := by
 obtain ⟨hc, hw, hr, hn, _⟩ := Tp o.shape
 have hwb := Au6 (w : Int)
 have hl := (g.len hw).2.2 rfl
 have hm := g.pos
 have e : s.length / wB (w : Int) = m * c := by rw [hl, Nat.mul_div_cancel _ (by omega)]
 rw [smF, if_neg (by simp), e]
 exact ⟨Bdw s hw hl hm.2, Bgd s hw hl hm.2, Awc _ _ _⟩
theorem Aoq : ∀ (j k q : Nat) (a : List (List Int32)) (acc : List Int), k + j = l.length → j < q → acc.length ≤ k → a.length = k →
  Fs b p (f : Int) (c : Int) (w : Int) (r : Int) (n : Int) (A : Int) l q (k : Int) a acc = some (Baf w (On b p f c w r n A l) j k a, Aqt (On b p f c w r n A l) j k acc)
 | 0, k, q + 1, a, acc, hk, _, _, _ => by
  rw [Fs, Kv, if_neg (by rw [Af, Ac]; simp; omega)]; rfl
 | j + 1, k, q + 1, a, acc, hk, hq, hacc, ha => by
  have hs1 := o.some1
  obtain ⟨m, x, s, e, g⟩ := Xl o k (by omega)
  rw [Fs, Kv, if_pos (by rw [Af, Ac]; simp; omega), g.got, Aa, Aqt, Baf, g.eq]
  simp only
  by_cases he : e = 0
  ·subst he
   obtain ⟨_, s1, _⟩ := Afl o g
   rw [if_neg (by rw [Ah]; simp), s1, Aa]
   simp only
   rw [Dc (by simp; omega), Aa, Ag (by omega) (by omega), if_neg (by simp)]
   exact Aoq j (k + 1) q _ acc (by omega) (by omega) (by omega) (by simp; omega)
  ·rw [if_pos (by rw [Ah]; simpa using he), Dc (by simp; omega), Aa, Dc (by simp; omega), Aa, Ag (by omega) (by omega), if_pos he]
   rw [show smF w (s, e) = [] by rw [smF, if_pos he]]
   exact Aoq j (k + 1) q _ _ (by omega) (by omega) (by simp; omega) (by simp; omega)
theorem Beo : Yi b p (f : Int) (c : Int) (w : Int) (r : Int) (n : Int) (A : Int) l = some (Baf w (On b p f c w r n A l) l.length 0 [], Aqt (On b p f c w r n A l) l.length 0 []) := by
 have hs1 := o.some1
 exact Aoq o l.length 0 Ba [] [] (by omega) (by have := Ap; omega) (by simp) rfl
end
end Go.Pl
set_option linter.unusedVariables false
set_option linter.unusedSimpArgs false
namespace Go.Pl
open Go Go.Lv
theorem Auw (z : Int) : (u8 z).toNat = (z % 256).toNat := by
 have : (z % 256).toNat < 256 := by omega
 rw [u8, UInt8.toNat_ofNat', Nat.mod_eq_of_lt (by omega)]
theorem Ax2 {bits : Int} (h : Dn bits) : ∀ (l : List Int32) (i j : Nat), i < l.length → j < wB bits → (bytesB bits l).getD (i * wB bits + j) 0 = (Ad2 bits (l.getD i 0).toInt).getD j 0
 | [], i, j, hi, _ => by simp at hi
 | x :: l, 0, j, _, hj => by
  have h1 := Aui h x.toInt
  have e : bytesB bits (x :: l) = Ad2 bits x.toInt ++ bytesB bits l := by simp [bytesB]
  rw [e, Nat.zero_mul, Nat.zero_add, List.getD_eq_getElem?_getD, List.getD_eq_getElem?_getD, List.getElem?_append_left (by omega)]; rfl
 | x :: l, i + 1, j, hi, hj => by
  have h1 := Aui h x.toInt
  have e : bytesB bits (x :: l) = Ad2 bits x.toInt ++ bytesB bits l := by simp [bytesB]
  have ih := Ax2 h l i j (by simpa using hi) hj
  have e2 : (i + 1) * wB bits + j = (Ad2 bits x.toInt).length + (i * wB bits + j) := by rw [Nat.add_mul, Nat.one_mul, h1]; omega
  rw [e, e2, List.getD_eq_getElem?_getD, List.getElem?_append_right (by omega), Nat.add_sub_cancel_left, ← List.getD_eq_getElem?_getD, ih]; rfl
theorem Bsr {bits : Int} (h : Dn bits) (l : List Int32) (hr : inR bits l) (i : Nat) (hi : i < l.length) : Int32.ofInt (sx (wB bits) (bytesB bits l) (i * wB bits)) = l.getD i 0 := by
 have hm : l.getD i 0 ∈ l := by rw [List.getD_eq_getElem?_getD, List.getElem?_eq_getElem hi]; exact List.getElem_mem hi
 have hv := hr _ hm
 have g : ∀ j, j < wB bits → Pn (bytesB bits l) (i * wB bits + j) = ((Ad2 bits (l.getD i 0).toInt).getD j 0).toNat := fun j hj => by rw [Pn, Ax2 h l i j hi hj]
 generalize l.getD i 0 = x at *
 have key : sx (wB bits) (bytesB bits l) (i * wB bits) = x.toInt := by
  generalize hA : i * wB bits = a at *
  obtain rfl | rfl | rfl := h
  ·have g0 := g 0 (by decide)
   have e1 : (Ad2 8 x.toInt).getD 0 0 = u8 (x.toInt + 128) := rfl
   rw [Nat.add_zero, e1, Auw] at g0
   simp only [hB] at hv
   simp at hv
   have e2 : wB 8 = 1 := rfl
   rw [e2, sx, if_pos rfl, g0]; omega
  ·have g0 := g 0 (by decide)
   have g1 := g 1 (by decide)
   have e0 : (Ad2 16 x.toInt).getD 0 0 = u8 x.toInt := rfl
   have e1 : (Ad2 16 x.toInt).getD 1 0 = u8 (x.toInt / 256) := rfl
   rw [Nat.add_zero, e0, Auw] at g0
   rw [e1, Auw] at g1
   simp only [hB] at hv
   simp at hv
   have e2 : wB 16 = 2 := rfl
   rw [e2, sx2, g0, g1]
   split <;> omega
  ·have g0 := g 0 (by decide)
   have g1 := g 1 (by decide)
   have g2 := g 2 (by decide)
   have e0 : (Ad2 24 x.toInt).getD 0 0 = u8 x.toInt := rfl
   have e1 : (Ad2 24 x.toInt).getD 1 0 = u8 (x.toInt / 256) := rfl
   have e3 : (Ad2 24 x.toInt).getD 2 0 = u8 (x.toInt / 65536) := rfl
   rw [Nat.add_zero, e0, Auw] at g0
   rw [e1, Auw] at g1
   rw [e3, Auw] at g2
   simp only [hB] at hv
   simp at hv
   have e2 : wB 24 = 3 := rfl
   rw [e2, sx3, g0, g1, g2]
   split <;> omega
 rw [key]; simp
theorem Bow {bits : Int} (h : Dn bits) (l : List Int32) (hr : inR bits l) : sxs (wB bits) l.length (bytesB bits l) = l := by
 refine List.ext_getElem (Awc _ _ _) fun i h1 h2 => ?_
 have := Bsr h l hr i h2
 simp only [sxs, List.getElem_map, List.getElem_range]
 rw [this, List.getD_eq_getElem?_getD, List.getElem?_eq_getElem h2]; rfl
theorem Gts.smp {b p : List UInt8} {f c w r n A : Nat} {l : List Int} {k m : Nat} {x : List Int32} {s : List UInt8} {e : Int} (hw : Dn (w : Int)) (g : Gts b p f c w r n A l k m x s e) : smF w (s, e) = x := by
 have hwb := Au6 (w : Int)
 by_cases he : e = 0
 ·obtain ⟨h1, h2, h3, _⟩ := g.some' he
  have h4 := g.pos
  have h5 := Apb hw x
  rw [smF, if_neg (by simpa using he)]
  simp only
  rw [h1, h5, Nat.mul_div_cancel _ (by omega)]
  exact Bow hw x (At3 hw (by omega) h3)
 ·rw [smF, if_pos he, (g.none' he).2]
end Go.Pl
set_option linter.unusedVariables false
set_option linter.unusedSimpArgs false
namespace Go.Pl
open Go Go.Lv
abbrev C5 := Int × Int × Int × List Int32 × Int
def Az5 (e : Int) : C5 := (0, 0, 0, [], e)
theorem Bp2 {seg p : List UInt8} (hs : seg.length = 8) (hp : p.length ≤ 64) : Xx seg p = some (seg == leB (Afe p).toNat 8, 0) := by
 rw [Xx, Bbr p hp, Aa]
 simp only
 rw [if_neg (by rw [Ah, Ah, Ac, Ac, Nh, hs]; simp), Gx, Aa]
theorem Brt (b p : List UInt8) (m c w h o q n g y ab : Int) (k v : List Int) {e : Int} (he : e ≠ 0) : Lm b p m c w h o q n g k e y ab v = some (Az5 e) := by
 rw [Lm, Ac5, if_pos (by rw [Ah]; simpa using he)]; rfl
theorem Aws (b p : List UInt8) (m c w h o q n g y ab : Int) (k : List Int) {e : Int} (he : e ≠ 0) : Ri b p m c w h o q n g y ab k e = some (Az5 e) := by
 rw [Ri, Acn, if_pos (by rw [Ah]; simpa using he)]; rfl
theorem Bpo (b p : List UInt8) (m c w h o q n g y ab : Int) (k : List Int) : Ri b p m c w h o q n g y ab k 0 = Wn b p m c w h o q n g y ab k := by
 rw [Ri, Acn, if_neg (by rw [Ah]; simp)]
def Axk (X : Nat → List Int32) (E : Nat → Int) (be : Int) : Nat → Nat → List Int32 → List Int32 × Int
 | 0, _, acc => if be ≠ 0 then ([], 38) else (acc, 0)
 | j + 1, k, acc => if E k ≠ 0 then ([], E k) else Axk X E be j (k + 1) (acc ++ X k)
def An3 (c w r : Nat) (y : List Int32 × Int) : C5 := if y.2 ≠ 0 then Az5 y.2 else ((c : Int), (w : Int), (r : Int), y.1, 0)
def Bjp (b p : List UInt8) (f c w r n A : Nat) (l : List Int) : C5 :=
 An3 c w r (Axk (fun k => smF w (On b p f c w r n A l k)) (fun k => (On b p f c w r n A l k).2) (Bmh b A l) l.length 0 [])
section
variable {b p : List UInt8} {f c w r n A : Nat} {l : List Int} (o : Opn b p f c w r n A l)
include o
theorem Bay (a1 a2 a3 a4 : Int) : ∀ (j k q : Nat) (acc : List Int32), k + j = l.length → j < q → (k = l.length → (A : Int) + l.sum ≤ b.length) → acc.length ≤ 4000 * k →
  Rf b l (f : Int) (c : Int) (w : Int) (r : Int) (n : Int) a1 a2 a3 (A : Int) a4 (tapsOf p) (framesL (longN r) n) q ((A : Int) + (l.take k).sum) (k : Int) acc =
   some (An3 c w r (Axk (fun k => smF w (On b p f c w r n A l k)) (fun k => (On b p f c w r n A l k).2) (Bmh b A l) j k acc))
 | 0, k, q + 1, acc, hk, _, hfit, _ => by
  have hA := o.at'
  have hfile := o.file
  have hs1 := o.some1
  have hsum := o.sum
  have b1 := Fw o.five l.length
  have hf := hfit (by omega)
  obtain rfl : k = l.length := by omega
  rw [List.take_length] at b1 ⊢
  rw [Rf, Ack, if_neg (by rw [Af, Ac]; simp), Aht, Ap2, Ng (by omega) (by omega), Aa, Bfz _ (by rw [List.length_drop]; omega), Aa, Axk, Bmh]
  generalize Am2 (b.drop ((A : Int) + l.sum).toNat) = v
  obtain ⟨v1, v2⟩ := v
  simp only
  by_cases hv : v2 ≠ 0
  ·rw [if_pos hv, if_pos (by rw [Ah]; simpa using hv), An3, if_pos (by simp)]; rfl
  ·rw [if_neg hv, if_neg (by rw [Ah]; simpa using hv), An3, if_neg (by simp)]
 | j + 1, k, q + 1, acc, hk, hq, hfit, hacc => by
  have hA := o.at'
  have hfile := o.file
  have hs1 := o.some1
  have hsum := o.sum
  have b1 := Fw o.five k
  have b2 := Fw o.five (k + 1)
  have hkl : k < l.length := by omega
  have e2 := Pc hkl
  have h5 := o.five l[k] (List.getElem_mem _)
  obtain ⟨m, x, s, e, g⟩ := Xl o k hkl
  obtain ⟨hc, hw, hr, hn, _⟩ := Tp o.shape
  have hl := g.len hw
  rw [Rf, Ack, if_pos (by rw [Af, Ac]; simp; omega), Cq hkl, Aa, Aa, Ag (a := (A : Int) + (l.take k).sum) (by omega) (by omega), Int.add_assoc, ← e2, Ac, Axk, g.eq]
  simp only
  rcases g.way with ⟨h1, h2⟩ | ⟨h1, h2, _⟩
  ·rw [if_pos (by rw [Af, decide_eq_true_eq]; omega), if_pos (by rw [h2]; simp), h2, An3, if_pos (by simp)]; rfl
  ·rw [if_neg (by rw [Af, decide_eq_true_eq]; omega), g.mom]
   simp only [Aa]
   rw [Uj (by omega) (by omega) (by omega), Aa, show (b.take ((A : Int) + (l.take (k + 1)).sum).toNat).drop ((A : Int) + (l.take k).sum).toNat = segF b A l k from rfl, h2, Aa]
   simp only
   rw [Ah6, Ao3]
   by_cases he : e ≠ 0
   ·rw [if_pos (by rw [Ah]; simpa using he), if_pos he, An3, if_pos he]; rfl
   ·have he0 : e = 0 := by simpa using he
    have hfit2 := (g.some' he0).2.2.2.2
    rw [if_neg (by rw [Ah]; simpa using he), if_neg he, g.smp hw, Dc (by omega), Aa, Ag (a := (A : Int) + (l.take k).sum) (by omega) (by omega), Int.add_assoc, ← e2, Ag (by omega) (by omega)]
    exact Bay a1 a2 a3 a4 j (k + 1) q (acc ++ x) (by omega) (by omega) (fun h => by rw [h, List.take_length] at hfit2; exact hfit2) (by rw [List.length_append]; omega)
theorem Aq3 : ∀ (j k q : Nat) (acc : List Int32), k + j = l.length → j < q → (k = l.length → (A : Int) + l.sum ≤ b.length) → acc.length ≤ 4000 * k →
  Hb b (f : Int) (c : Int) (w : Int) (r : Int) (n : Int) l (framesL (longN r) n) (tapsOf p) q ((A : Int) + (l.take k).sum) (k : Int) acc =
   some (An3 c w r (Axk (fun k => smF w (On b p f c w r n A l k)) (fun k => (On b p f c w r n A l k).2) (Bmh b A l) j k acc))
 | 0, k, q + 1, acc, hk, _, hfit, _ => by
  have hA := o.at'
  have hfile := o.file
  have hs1 := o.some1
  have hsum := o.sum
  have b1 := Fw o.five l.length
  have hf := hfit (by omega)
  obtain rfl : k = l.length := by omega
  rw [List.take_length] at b1 ⊢
  rw [Hb, Nx, if_neg (by rw [Af, Ac]; simp), Uw, Adq, Ng (by omega) (by omega), Aa, Bhs _ (by rw [List.length_drop]; omega), Aa, Axk, Bmh]
  generalize Am2 (b.drop ((A : Int) + l.sum).toNat) = v
  obtain ⟨v1, v2⟩ := v
  simp only
  by_cases hv : v2 ≠ 0
  ·rw [if_pos hv, if_pos (by rw [Ah]; simpa using hv), An3, if_pos (by simp)]; rfl
  ·rw [if_neg hv, if_neg (by rw [Ah]; simpa using hv), An3, if_neg (by simp)]
 | j + 1, k, q + 1, acc, hk, hq, hfit, hacc => by
  have hA := o.at'
  have hfile := o.file
  have hs1 := o.some1
  have hsum := o.sum
  have b1 := Fw o.five k
  have b2 := Fw o.five (k + 1)
  have hkl : k < l.length := by omega
  have e2 := Pc hkl
  have h5 := o.five l[k] (List.getElem_mem _)
  obtain ⟨m, x, s, e, g⟩ := Xl o k hkl
  obtain ⟨hc, hw, hr, hn, _⟩ := Tp o.shape
  have hl := g.len hw
  rw [Hb, Nx, if_pos (by rw [Af, Ac]; simp; omega), Cq hkl, Aa, Aa, Ac, Bk (by omega) (by omega), Axk, g.eq]
  simp only
  rcases g.way with ⟨h1, h2⟩ | ⟨h1, _, h2⟩
  ·rw [if_pos (by rw [Af, decide_eq_true_eq]; omega), if_pos (by rw [h2]; simp), h2, An3, if_pos (by simp)]; rfl
  ·rw [if_neg (by rw [Af, decide_eq_true_eq]; omega), g.mom]
   simp only [Aa]
   rw [Ag (a := (A : Int) + (l.take k).sum) (by omega) (by omega), Int.add_assoc, ← e2, Uj (by omega) (by omega) (by omega), Aa, show (b.take ((A : Int) + (l.take (k + 1)).sum).toNat).drop ((A : Int) + (l.take k).sum).toNat = segF b A l k from rfl, h2, Aa]
   simp only
   rw [Ub, Adf]
   by_cases he : e ≠ 0
   ·rw [if_pos (by rw [Ah]; simpa using he), if_pos he, An3, if_pos he]; rfl
   ·have he0 : e = 0 := by simpa using he
    have hfit2 := (g.some' he0).2.2.2.2
    rw [if_neg (by rw [Ah]; simpa using he), if_neg he, g.smp hw, Dc (by omega), Aa, Cq hkl, Aa, Aa, Ag (a := (A : Int) + (l.take k).sum) (by omega) (by omega), Int.add_assoc, ← e2, Ag (by omega) (by omega)]
    exact Aq3 j (k + 1) q (acc ++ x) (by omega) (by omega) (fun h => by rw [h, List.take_length] at hfit2; exact hfit2) (by rw [List.length_append]; omega)
end
theorem Bbs (l : List Int) (b p : List UInt8) (m c w h o q n g : Int) (k : List Int) (hl : l.length ≤ 1000) (h5 : ∀ x ∈ l, 5 ≤ x) (A : Int) (hA : 0 ≤ A) (hb : A + l.sum ≤ 1000000) : ∀ (j i z : Nat), i + j = l.length → j < z → Qr l b p m c w h o q n g k z (i : Int) (A + (l.take i).sum) = Abs b p l m c w h o q n g (A + l.sum) k
 | 0, i, z + 1, hi, _ => by
  rw [Qr, Acf, if_neg (by rw [Af, Ac]; simp; omega), show i = l.length by omega, List.take_length]
 | j + 1, i, z + 1, hi, hz => by
  have hlt : i < l.length := by omega
  have b1 := Fw h5 i
  have b2 := Fw h5 (i + 1)
  have e := Pc hlt
  have ih := Bbs l b p m c w h o q n g k hl h5 A hA hb j (i + 1) z (by omega) (by omega)
  rw [e, ← Int.add_assoc] at ih
  rw [Qr, Acf, if_pos (by rw [Af, Ac]; simp; omega), Cq hlt, Aa, Aa, Ag (by omega) (by omega), Ag (by omega) (by omega)]
  exact ih
theorem Bh9 (b p : List UInt8) (hb : b.length ≤ 100100) (hp : p.length ≤ 64) :
  (∃ e : Int, e ≠ 0 ∧ seekto_Open b p = some (Akk e) ∧ Ki b p = some (Az5 e) ∧ Dp b p = some (Az5 e)) ∨
  (∃ f c w r n T : Nat, ∃ q d : Int, T ≤ b.length ∧ b.length ≤ 100000 ∧ shapeB f c w r n = true ∧ fitB c r n = true ∧
   seekto_Open b p = Qu b (f : Int) (c : Int) (w : Int) (r : Int) (n : Int) (T : Int) ∧
   Ki b p = Wn b p (f : Int) (c : Int) (w : Int) (r : Int) (n : Int) q d (T : Int) 0 0 (framesL (longN r) n) ∧
   Dp b p = (Tj b (T : Int) (f : Int) (c : Int) (w : Int) (r : Int) (n : Int)).bind fun (h, ae) => if Cl ae 0 = true then some (Az5 ae) else (Cn (r : Int) (n : Int)).bind fun p2 => (Hq p).bind fun (u, ap) => Wy b (f : Int) (c : Int) (w : Int) (r : Int) (n : Int) h p2 u (Ae (T : Int) (Ae (Bj 4 (Ac h)) 4)) 0 []) := by
 have hO : seekto_Open b p = seekto_Open b p := rfl
 have hV : Ki b p = Ki b p := rfl
 have hR : Dp b p = Dp b p := rfl
 conv at hO => rhs; rw [seekto_Open, Ra, if_neg (by rw [Au, Ac]; simp; omega)]
 conv at hV => rhs; rw [Ki, Zk, if_neg (by rw [Au, Ac]; simp; omega), Apg]
 conv at hR => rhs; rw [Dp, Nl, if_neg (by rw [Au, Ac]; simp; omega), Aaa]
 by_cases h1 : 100000 < b.length
 ·rw [if_pos (by rw [Au, Ac]; simp; omega)] at hO hV hR
  refine .inl ⟨4, by omega, hO, ?_, ?_⟩
  ·rw [hV, Aa]; rfl
  ·rw [hR, Aa]; rfl
 rw [if_neg (by rw [Au, Ac]; simp; omega)] at hO hV hR
 rw [Apl b (by omega), Aa] at hO hV
 rw [Asn b (by omega), Aa] at hR
 by_cases h2 : (frontS b).2 = 0
 ·obtain ⟨p0, p1, p2⟩ := Bcg h2
  have hc := Ng (l := b) p0 p1
  simp only [h2] at hO hV hR
  rw [if_neg (by rw [Ah]; simp), hc, Aa, show b.drop (frontS b).1.toNat = hdr b from rfl] at hO hV hR
  rw [Bbo _ (by simp [hdr]; omega), Aa] at hO hV
  rw [Bet _ (by simp [hdr]; omega), Aa] at hR
  by_cases h3 : (Yt (hdr b)).2.2.2.2.2 = 0
  ·obtain ⟨g1, g2, g3, g4⟩ := Bge h3
   have hlen : (hdr b).length = b.length - (frontS b).1.toNat := by simp [hdr]
   generalize hF : (frontS b).1.toNat = F at *
   have hF' : (frontS b).1 = (F : Int) := by omega
   rw [g1, hF'] at hO hV hR
   simp only at hO hV hR
   generalize f0 (hdr b) = f at *
   generalize f1 (hdr b) = c at *
   generalize f2 (hdr b) = w at *
   generalize f3 (hdr b) = r at *
   generalize f4 (hdr b) = n at *
   have t22 : Ae (F : Int) 22 = ((F + 22 : Nat) : Int) := by rw [Ag (by omega) (by omega)]; omega
   have t30 : Ae ((F + 22 : Nat) : Int) 8 = ((F + 30 : Nat) : Int) := by rw [Ag (by omega) (by omega)]; omega
   have hf12 : f = 1 ∨ f = 2 := by simp only [shapeB, decide_eq_true_eq] at g3; omega
   rw [if_neg (by rw [Ah]; simp), t22, t30] at hO
   rw [if_neg (by rw [Ah]; simp), Ajz g3 g4, Aa, t22, t30] at hV
   rw [Aa] at hR
   simp only at hV hR
   rw [if_neg (by rw [Ah]; simp), t22, Ym, t30] at hR
   by_cases hpass : ((p == ([] : List UInt8)) != (geq (f : Int) (1 : Int))) = true
   ·rw [if_pos hpass] at hO hR
    refine .inl ⟨26, by omega, hO, ?_, ?_⟩
    ·rw [hV]
     by_cases h5 : f = 2
     ·rw [if_pos (by rw [Bg, h5]; rfl), Aa]
      simp only
      rw [if_neg (by rw [Ah]; simp), if_pos hpass, Aws _ _ _ _ _ _ _ _ _ _ _ _ _ (by omega)]
     ·rw [if_neg (by rw [Bg]; simp; omega), Aa]
      simp only
      rw [if_neg (by rw [Ah]; simp), if_pos hpass, Aws _ _ _ _ _ _ _ _ _ _ _ _ _ (by omega)]
    ·rw [hR, Aa]; rfl
   ·rw [if_neg hpass] at hO hR
    have hpf : (p = [] ↔ f = 1) := by
     rw [Bg] at hpass
     have h5 : (p == ([] : List UInt8)) = ((f : Int) == 1) := by simpa using hpass
     have h6 : (p == ([] : List UInt8)) = true ↔ ((f : Int) == 1) = true := by rw [h5]
     rw [beq_iff_eq, beq_iff_eq] at h6
     rw [h6]; omega
    by_cases h5 : f = 2
    ·have hpne : p ≠ [] := fun e => by have := hpf.1 e; omega
     rw [if_pos (by rw [Bg, h5]; rfl), Aa] at hV
     simp only at hV
     rw [if_neg (by rw [Ah]; simp), if_neg hpass, if_neg (by rw [Bg]; simp; omega)] at hV
     rw [if_pos (by simpa using hpne)] at hO
     rw [if_neg (by simpa using hpne)] at hR
     by_cases h6 : b.length < F + 30
     ·rw [if_pos (by rw [Af, Ac]; simp; omega)] at hO hV hR
      refine .inl ⟨24, by omega, hO, ?_, ?_⟩
      ·rw [hV, Aws _ _ _ _ _ _ _ _ _ _ _ _ _ (by omega)]
      ·rw [hR, Aa]; rfl
     ·have hseg : ((b.take (F + 30)).drop (F + 22)).length = 8 := by simp; omega
      rw [if_neg (by rw [Af, Ac]; simp; omega), Uj (by omega) (by omega) (by omega), Aa, show ((F + 30 : Nat) : Int).toNat = F + 30 from rfl, show ((F + 22 : Nat) : Int).toNat = F + 22 from rfl] at hO hV hR
      rw [Bp2 hseg hp, Aa] at hO hV
      rw [Bb1 p hp, Aa] at hR
      simp only at hO hV
      rw [if_neg (by rw [Ah]; simp)] at hO
      generalize (b.take (F + 30)).drop (F + 22) = seg at *
      by_cases h7 : seg = leB (Afe p).toNat 8
      ·rw [if_neg (by simp [h7])] at hO hV
       rw [if_neg (by simp [h7]), Aa] at hR
       simp only at hR
       rw [if_neg (by rw [Ah]; simp)] at hR
       rw [Bpo] at hV
       exact .inr ⟨f, c, w, r, n, F + 30, (F : Int), ((F + 22 : Nat) : Int), by omega, by omega, g3, g4, hO, hV, hR⟩
      ·rw [if_pos (by simpa using h7)] at hO hV
       rw [if_pos (by simpa using h7)] at hR
       refine .inl ⟨26, by omega, hO, ?_, ?_⟩
       ·rw [hV, Aws _ _ _ _ _ _ _ _ _ _ _ _ _ (by omega)]
       ·rw [hR, Aa]; rfl
    ·have hpe : p = [] := hpf.2 (by omega)
     rw [if_neg (by rw [Bg]; simp; omega), Aa] at hV
     simp only at hV
     rw [if_neg (by rw [Ah]; simp), if_neg hpass, if_pos (by rw [Bg]; simp; omega), Bpo] at hV
     rw [if_neg (by rw [hpe]; simp)] at hO
     rw [if_pos (by rw [hpe]; rfl), Aa] at hR
     simp only at hR
     rw [if_neg (by rw [Ah]; simp)] at hR
     exact .inr ⟨f, c, w, r, n, F + 22, (F : Int), ((F + 22 : Nat) : Int), by omega, by omega, g3, g4, hO, hV, hR⟩
  ·generalize Yt (hdr b) = v at *
   obtain ⟨v1, v2, v3, v4, v5, v6⟩ := v
   simp only at h3 hO hV hR
   rw [if_pos (by rw [Ah]; simpa using h3)] at hO hV
   refine .inl ⟨v6, h3, hO, ?_, ?_⟩
   ·rw [hV, Aa]
    simp only
    rw [if_pos (by rw [Ah]; simpa using h3)]; rfl
   ·rw [hR, Aa]
    simp only
    rw [if_pos (by rw [Ah]; simpa using h3)]; rfl
 ·generalize frontS b = v at *
  obtain ⟨v, e⟩ := v
  simp only at h2 hO hV hR
  rw [if_pos (by rw [Ah]; simpa using h2)] at hO hV hR
  refine .inl ⟨e, h2, hO, ?_, ?_⟩
  ·rw [hV, Aa]
   simp only
   rw [if_pos (by rw [Ah]; simpa using h2)]; rfl
  ·rw [hR, Aa]
   simp only
   rw [if_pos (by rw [Ah]; simpa using h2)]; rfl
theorem Bks (b p : List UInt8) (hb : b.length ≤ 100100) (hp : p.length ≤ 64) :
  (∃ e : Int, e ≠ 0 ∧ seekto_Open b p = some (Akk e) ∧ cadenzaref40_Opened b p = some (Akk e) ∧ Ki b p = some (Az5 e) ∧ Dp b p = some (Az5 e)) ∨
  (∃ f c w r n A l, Opn b p f c w r n A l ∧ Ki b p = some (Bjp b p f c w r n A l) ∧ Dp b p = some (Bjp b p f c w r n A l)) := by
 have hbadI : ∀ {e e2 : Int}, Akk e = Akk e2 → e = e2 := fun h => by simpa [Akk] using h
 rcases Bh9 b p hb hp with ⟨e, he, h1, h2, h3⟩ | ⟨f, c, w, r, n, T, q, d, hT, hfile, g3, g4, hO, hV, hR⟩
 ·rcases Atp b p hb hp with ⟨e', he', k1, k2⟩ | ⟨f, c, w, r, n, A, l, o⟩
  ·rw [h1] at k1
   have := hbadI (Option.some.inj k1)
   subst this
   exact .inl ⟨e, he, h1, k2, h2, h3⟩
  ·have := o.prog
   rw [h1] at this
   have := Option.some.inj this
   simp only [Akk, Prod.mk.injEq] at this
   exact absurd this.2.2.2.2.2.2.2 he
 ·obtain ⟨hc, hw, hr, hn, _⟩ := Tp g3
  have hfit : n ≤ 4000 / c := by simp only [fitB, decide_eq_true_eq] at g4; exact g4.1
  have hn4 : n ≤ 4000 := by have := Nat.div_le_self 4000 c; omega
  rw [Ba6 g3 g4 b hb T hT] at hO
  have hcut := Ng (l := b) (a := (T : Int)) (by omega) (by omega)
  rw [Int.toNat_natCast] at hcut
  have hdl : (b.drop T).length ≤ 100100 := by simp; omega
  rw [Wn, Ahq, if_neg (by rw [Af, Ac]; simp; omega), hcut, Aa, Ac, Bcc _ _ hdl, Aa] at hV
  rw [Tj, hcut, Aa, Ahy hr.2 hn hn4, Aa, Ac, Be8 _ _ hdl, Aa, Aa] at hR
  by_cases h : (Le (b.drop T) (framesL (longN r) n).length).2 ≠ 0
  ·rw [if_pos h] at hO
   generalize Le (b.drop T) (framesL (longN r) n).length = v at *
   obtain ⟨v1, v2⟩ := v
   simp only at h hO hV hR
   rcases Atp b p hb hp with ⟨e', he', k1, k2⟩ | ⟨f, c, w, r, n, A, l, o⟩
   ·rw [hO] at k1
    have := hbadI (Option.some.inj k1)
    subst this
    refine .inl ⟨_, h, hO, k2, ?_, ?_⟩
    ·rw [hV, Abl, Ab7, if_pos (by rw [Ah]; simpa using h), Brt _ _ _ _ _ _ _ _ _ _ _ _ _ _ h]
    ·rw [hR, if_pos (by rw [Ah]; simpa using h)]
   ·have := o.prog
    rw [hO] at this
    have := Option.some.inj this
    simp only [Akk, Prod.mk.injEq] at this
    exact absurd this.2.2.2.2.2.2.2 h
  ·have h0 : (Le (b.drop T) (framesL (longN r) n).length).2 = 0 := by simpa using h
   rw [if_neg h] at hO
   generalize hsv : Le (b.drop T) (framesL (longN r) n).length = v at *
   obtain ⟨v1, v2⟩ := v
   simp only at h0 hO hV hR
   subst h0
   rcases Atp b p hb hp with ⟨e', he', k1, k2⟩ | ⟨f', c', w', r', n', A, l, o⟩
   ·rw [hO] at k1
    have := Option.some.inj k1
    simp only [Akk, Prod.mk.injEq] at this
    exact absurd this.2.2.2.2.2.2.2.symm he'
   ·have hp2 := o.prog
    rw [hO] at hp2
    have hp3 := Option.some.inj hp2
    simp only [Prod.mk.injEq] at hp3
    obtain ⟨i1, i2, i3, i4, i5, i6, i7, _⟩ := hp3
    obtain rfl : f = f' := by omega
    obtain rfl : c = c' := by omega
    obtain rfl : w = w' := by omega
    obtain rfl : r = r' := by omega
    obtain rfl : n = n' := by omega
    subst i7
    have hlen := o.len
    have hs1 := o.some1
    have hsum := o.sum
    have hA := o.at'
    have hAT : (A : Int) = (T : Int) + 4 * (v1.length : Int) + 4 := by omega
    have a1 : Bj 4 (v1.length : Int) = 4 * (v1.length : Int) := Gt (by omega) (by omega)
    have eV : Ae (Ae (T : Int) (Bj 4 (Ac v1))) 4 = (A : Int) := by
     rw [Ac, a1, Ag (a := (T : Int)) (by omega) (by omega), Ag (by omega) (by omega)]; omega
    have eR : Ae (T : Int) (Ae (Bj 4 (Ac v1)) 4) = (A : Int) := by
     rw [Ac, a1, Ag (a := 4 * (v1.length : Int)) (by omega) (by omega), Ag (by omega) (by omega)]; omega
    have hlv := Bay o q d (T : Int) ((A : Int) + v1.sum) v1.length 0 Ba [] (by omega) (by have := Ap; omega) (by omega) (by simp)
    have hlr := Aq3 o v1.length 0 Ba [] (by omega) (by have := Ap; omega) (by omega) (by simp)
    rw [List.take_zero, List.sum_nil, Int.add_zero] at hlv hlr
    refine .inr ⟨f, c, w, r, n, A, v1, o, ?_, ?_⟩
    ·have hs := Bbs v1 b p (f : Int) (c : Int) (w : Int) (r : Int) (n : Int) q d (T : Int) (framesL (longN r) n) hs1.2 o.five (A : Int) (by omega) (by omega) v1.length 0 Ba (by omega) (by have := Ap; omega)
     rw [List.take_zero, List.sum_nil, Int.add_zero] at hs
     rw [hV, Abl, Ab7, if_neg (by rw [Ah]; simp), Aje, eV]
     refine Eq.trans hs ?_
     rw [Abs, Ai4, eV, Lm, Ac5, if_neg (by rw [Ah]; simp), Bch p o.pass, Aa]
     exact hlv
    ·rw [hR, if_neg (by rw [Ah]; simp), Aa, Ax1 p o.pass, Aa, eR]
     exact hlr
end Go.Pl
set_option linter.unusedVariables false
set_option linter.unusedSimpArgs false
namespace Go.Pl
open Go Go.Lv
theorem Bun {ch : Nat} {bits : Int} (hb : Dn bits) (h1 : 1 ≤ ch) (h6 : ch ≤ 6) : Oz (ch : Int) bits = some 0 := by
 have hr : ∃ x y, Xf bits = some (x, y, 0) := ⟨_, _, Bdm hb⟩
 obtain ⟨x, y, hr⟩ := hr
 rw [Oz, hr, Aa]
 simp only
 rw [if_neg (by simp [Ah, Af, Au]; omega)]
theorem Bii {ch m : Nat} {bits : Int} (hb : Dn bits) (h1 : 1 ≤ ch) (h6 : ch ≤ 6) (hm : 1 ≤ m ∧ m * ch ≤ 4000) : Zm (ch : Int) bits (m : Int) = some (List.replicate (m * ch) 0, 0) := by
 have hmc : m ≤ 4000 / ch := (Nat.le_div_iff_mul_le (by omega)).2 hm.2
 have e : (m : Int) * (ch : Int) = ((m * ch : Nat) : Int) := by simp
 have hg : Bj (m : Int) (ch : Int) = ((m * ch : Nat) : Int) := by rw [Gt (by omega) (by omega), e]
 have hq4 := Bj4 h1 h6
 generalize 4000 / ch = mm at *
 rw [Zm, Akv, Bun hb h1 h6, Aa, if_neg (by rw [Ah]; simp), if_neg (by rw [Af]; simp; omega), Bu (by rw [Ah]; simp; omega), Aa, hq4, if_neg (by rw [Au]; simp; omega), Aa, if_neg (by rw [Ah]; simp), hg, Asv (by omega) (by omega), Aa, Bu (by rw [Bg]; simp), Aa, Int.toNat_natCast]
def Aeh (kind c w : Nat) (fr : List Int) (G : Nat → List UInt8 × Int) (k : Nat) : List Int32 :=
 if (G k).2 ≠ 0 then (if kind = 2 then List.replicate ((fr.getD k 0).toNat * c) 0 else []) else smF w (G k)
def Ako (kind c w : Nat) (fr : List Int) (G : Nat → List UInt8 × Int) : Nat → Nat → List Int32 → List Int32
 | 0, _, acc => acc
 | j + 1, k, acc => Ako kind c w fr G j (k + 1) (acc ++ Aeh kind c w fr G k)
theorem Bdf (kind c w : Nat) (fr : List Int) (G : Nat → List UInt8 × Int) : ∀ (j k : Nat) (acc : List Int32), acc.length ≤ (Ako kind c w fr G j k acc).length
 | 0, k, acc => Nat.le_refl _
 | j + 1, k, acc => by
  have := Bdf kind c w fr G j (k + 1) (acc ++ Aeh kind c w fr G k)
  rw [List.length_append] at this
  rw [Ako]; omega
theorem Bb6 (c w : Nat) (fr : List Int) (G : Nat → List UInt8 × Int) (L : Nat) (hG : ∀ k, k < L → (G k).2 = 0 → 1 ≤ (smF w (G k)).length) : ∀ (j k : Nat) (acc : List Int32) (bad : List Int), k + j = L → ((Ako 1 c w fr G j k acc).length = acc.length ↔ (Aqt G j k bad).length = bad.length + j)
 | 0, k, acc, bad, _ => by simp [Ako, Aqt]
 | j + 1, k, acc, bad, hk => by
  rw [Ako, Aqt, Aeh]
  by_cases h : (G k).2 ≠ 0
  ·have ih := Bb6 c w fr G L hG j (k + 1) acc (bad ++ [(k : Int)]) (by omega)
   rw [if_pos h, if_neg (by omega), if_pos h, List.append_nil, ih, List.length_append]; simp; omega
  ·have h1 := hG k (by omega) (by simpa using h)
   have h2 := Bdf 1 c w fr G j (k + 1) (acc ++ smF w (G k))
   have h3 := Axh G j (k + 1) bad
   rw [List.length_append] at h2
   rw [if_neg h, if_neg h]
   constructor <;> intro h4 <;> omega
theorem Bdd (w : Nat) (G : Nat → List UInt8 × Int) : ∀ (j k : Nat) (acc : List (List Int32)), Baf w G j k acc = acc ++ (List.range' k j).map fun i => smF w (G i)
 | 0, k, acc => by simp [Baf]
 | j + 1, k, acc => by rw [Baf, Bdd w G j (k + 1), List.range'_succ]; simp
theorem Box (w : Nat) (G : Nat → List UInt8 × Int) (L i : Nat) (hi : i < L) : getI (Baf w G L 0 []) (i : Int) = some (smF w (G i)) := by
 have e := Bdd w G L 0 []
 rw [e, Cq (by simpa using hi)]
 simp
theorem Bnt (w : Nat) (G : Nat → List UInt8 × Int) (L : Nat) : (Baf w G L 0 []).length = L := by rw [Bdd]; simp
abbrev P6' := Int × Int × Int × List Int32 × List Int × Int
def Biz (e : Int) : P6' := (0, 0, 0, [], [], e)
def Bpc (b p : List UInt8) (f c w r n A : Nat) (l : List Int) (kind : Nat) : P6' :=
 if Ako kind c w (framesL (longN r) n) (On b p f c w r n A l) l.length 0 [] = [] then Biz 6 else ((c : Int), (w : Int), (r : Int), Ako kind c w (framesL (longN r) n) (On b p f c w r n A l) l.length 0 [], Aqt (On b p f c w r n A l) l.length 0 [], 0)
section
variable {b p : List UInt8} {f c w r n A : Nat} {l : List Int} (o : Opn b p f c w r n A l)
include o
theorem Ap9 {kind k m : Nat} {x : List Int32} {s : List UInt8} {e : Int} (g : Gts b p f c w r n A l k m x s e) : (Aeh kind c w (framesL (longN r) n) (On b p f c w r n A l) k).length ≤ 4000 ∧ ((framesL (longN r) n).getD k 0).toNat = m := by
 obtain ⟨hc, hw, hr, hn, _⟩ := Tp o.shape
 have hm := g.mom
 have hp := g.pos
 have e1 : (framesL (longN r) n).getD k 0 = (m : Int) := by
  have : getI (framesL (longN r) n) (k : Int) = (framesL (longN r) n)[k]? := by simp [getI]
  rw [this] at hm
  rw [List.getD_eq_getElem?_getD, hm]; rfl
 refine ⟨?_, by rw [e1]; omega⟩
 rw [Aeh, g.eq, e1]
 by_cases he : e ≠ 0
 ·rw [if_pos he]
  split
  ·simpa using hp.2
  ·simp
 ·rw [if_neg he, g.smp hw]; exact (g.len hw).2.1
theorem Bew (kind : Nat) (hk2 : kind = 1 ∨ kind = 2) : ∀ (j k q : Nat) (bad : List Int) (acc : List Int32), k + j = l.length → j < q → bad.length ≤ k → acc.length ≤ 4000 * k →
  Ho b p (framesL (longN r) n) 0 (kind : Int) (c : Int) (w : Int) (r : Int) (f : Int) (c : Int) (w : Int) (r : Int) (n : Int) (A : Int) l q (k : Int) bad acc =
   Fx (c : Int) (w : Int) (r : Int) 0 (Aqt (On b p f c w r n A l) j k bad) (Ako kind c w (framesL (longN r) n) (On b p f c w r n A l) j k acc)
 | 0, k, q + 1, bad, acc, hk, _, _, _ => by
  rw [Ho, Ve, if_neg (by rw [Af, Ac, ← o.len]; simp; omega)]; rfl
 | j + 1, k, q + 1, bad, acc, hk, hq, hb, ha => by
  obtain ⟨hc, hw, hr, hn, _⟩ := Tp o.shape
  have hs1 := o.some1
  obtain ⟨m, x, s, e, g⟩ := Xl o k (by omega)
  have hf := Bmu o (by omega) g
  obtain ⟨hpl, hfm⟩ := Ap9 o (kind := kind) g
  have hpiece : Aeh kind c w (framesL (longN r) n) (On b p f c w r n A l) k = if e ≠ 0 then (if kind = 2 then List.replicate (m * c) 0 else []) else smF w (s, e) := by rw [Aeh, g.eq, hfm]
  have hnext : ∀ (bad2 : List Int) (acc2 : List Int32), bad2.length ≤ k + 1 → acc2.length ≤ 4000 * (k + 1) → Jn (Ho b p (framesL (longN r) n) 0 (kind : Int) (c : Int) (w : Int) (r : Int) (f : Int) (c : Int) (w : Int) (r : Int) (n : Int) (A : Int) l q) b p (framesL (longN r) n) 0 (kind : Int) (c : Int) (w : Int) (r : Int) (f : Int) (c : Int) (w : Int) (r : Int) (n : Int) (A : Int) l (k : Int) 0 bad2 acc2 =
    Fx (c : Int) (w : Int) (r : Int) 0 (Aqt (On b p f c w r n A l) j (k + 1) bad2) (Ako kind c w (framesL (longN r) n) (On b p f c w r n A l) j (k + 1) acc2) := by
   intro bad2 acc2 h2 h3
   rw [Jn, Aby, if_neg (by rw [Ah]; simp), Abr, Ajn, Ag (by omega) (by omega)]
   exact Bew kind hk2 j (k + 1) q bad2 acc2 (by omega) (by omega) h2 h3
  rw [hpiece] at hpl
  rw [Ho, Ve, if_pos (by rw [Af, Ac, ← o.len]; simp; omega), g.mom, Aa, Aa, hf, Aa, Aqt, Ako, g.eq, hpiece]
  simp only
  by_cases he : e = 0
  ·subst he
   obtain ⟨s1, _, _⟩ := Afl o g
   rw [if_neg (by simp)] at hpl
   rw [if_pos (by decide), s1, Aa]
   simp only
   rw [if_neg (by rw [Ah]; simp), Vv, Vu, if_neg (by decide), Vr, Vl, Dc (by omega), Aa, if_neg (by simp), if_neg (by simp)]
   exact hnext bad _ (by omega) (by rw [List.length_append]; omega)
  ·rw [if_pos he] at hpl
   rw [if_neg (by rw [Bg]; simpa using he), Vv, Vu, if_pos (by rw [Bg]; simpa using he), Dc (by simp; omega), Aa, if_pos he, if_pos he]
   rcases hk2 with rfl | rfl
   ·rw [if_neg (by rw [Bg]; decide), Vr, Vl, Dc (by simp; omega), Aa, if_neg (by omega)]
    exact hnext _ _ (by simp; omega) (by simp; omega)
   ·rw [if_pos (by rw [Bg]; decide), Bii hw hc.1 hc.2 g.pos, Aa]
    simp only
    rw [if_pos rfl] at hpl
    rw [if_neg (by rw [Ah]; simp), Ach, Acx, Dc (by omega), Aa, if_pos trivial]
    exact hnext _ _ (by simp; omega) (by rw [List.length_append]; omega)
theorem Asp (kind : Nat) (hk2 : kind = 1 ∨ kind = 2) (bd : List Int) : ∀ (j k q : Nat) (y : List (List Int32)) (acc : List Int32), k + j = l.length → j < q → y.length = l.length → (∀ i, k ≤ i → i < l.length → getI y (i : Int) = some (smF w (On b p f c w r n A l i))) → acc.length ≤ 4000 * k →
  Eh (kind : Int) (f : Int) (c : Int) (w : Int) (r : Int) (n : Int) (A : Int) l bd (framesL (longN r) n) q (k : Int) y acc =
   some ((c : Int), (w : Int), (r : Int), Ako kind c w (framesL (longN r) n) (On b p f c w r n A l) j k acc, bd, 0)
 | 0, k, q + 1, y, acc, hk, _, hyl, _, _ => by
  rw [Eh, Kr, if_neg (by rw [Af, Ac, hyl]; simp; omega)]; rfl
 | j + 1, k, q + 1, y, acc, hk, hq, hyl, hy, ha => by
  obtain ⟨hc, hw, hr, hn, _⟩ := Tp o.shape
  have hs1 := o.some1
  obtain ⟨m, x, s, e, g⟩ := Xl o k (by omega)
  obtain ⟨hpl, hfm⟩ := Ap9 o (kind := kind) g
  have hpiece : Aeh kind c w (framesL (longN r) n) (On b p f c w r n A l) k = if e ≠ 0 then (if kind = 2 then List.replicate (m * c) 0 else []) else smF w (s, e) := by rw [Aeh, g.eq, hfm]
  have hyk := hy k (Nat.le_refl _) (by omega)
  have hp := g.pos
  rw [g.eq] at hyk
  rw [hpiece] at hpl
  have hnext : ∀ (y2 : List (List Int32)) (z : List Int32), y2.length = l.length → getI y2 (k : Int) = some z → (∀ i, k + 1 ≤ i → i < l.length → getI y2 (i : Int) = some (smF w (On b p f c w r n A l i))) → z.length ≤ 4000 →
    Ju (Eh (kind : Int) (f : Int) (c : Int) (w : Int) (r : Int) (n : Int) (A : Int) l bd (framesL (longN r) n) q) (kind : Int) (f : Int) (c : Int) (w : Int) (r : Int) (n : Int) (A : Int) l bd (framesL (longN r) n) (k : Int) acc y2 =
     some ((c : Int), (w : Int), (r : Int), Ako kind c w (framesL (longN r) n) (On b p f c w r n A l) j (k + 1) (acc ++ z), bd, 0) := by
   intro y2 z h1 h2 h3 h4
   rw [Ju, Aao, h2, Aa, Aa, Dc (by omega), Aa, Ag (by omega) (by omega)]
   exact Asp kind hk2 bd j (k + 1) q y2 (acc ++ z) (by omega) (by omega) h1 h3 (by rw [List.length_append]; omega)
  rw [Eh, Kr, if_pos (by rw [Af, Ac, hyl]; simp; omega), hyk, Aa, Aa, Ako, hpiece]
  by_cases he : e = 0
  ·subst he
   obtain ⟨_, _, s3⟩ := Afl o g
   have hpos : 1 ≤ m * c := Nat.mul_pos hp.1 hc.1
   rw [if_neg (by simp)] at hpl
   rw [if_neg (by rw [Bg, Ac, s3]; simp; omega), if_neg (by simp)]
   exact hnext y _ hyl hyk (fun i h1 h2 => hy i (by omega) h2) hpl
  ·have e0 : smF w (s, e) = [] := by rw [smF, if_pos he]
   rw [if_pos he] at hpl
   rw [if_pos he, e0]
   rcases hk2 with rfl | rfl
   ·rw [if_neg (by rw [Bg, Bg]; decide), if_neg (by omega)]
    exact hnext y [] hyl (by rw [hyk, e0]) (fun i h1 h2 => hy i (by omega) h2) (by simp)
   ·have e1 : (m : Int) * (c : Int) = ((m * c : Nat) : Int) := by simp
    have hg : Bj (m : Int) (c : Int) = ((m * c : Nat) : Int) := by rw [Gt (by omega) (by omega), e1]
    rw [if_pos rfl] at hpl
    rw [if_pos (by rw [Bg, Bg]; decide), g.mom]
    simp only [Aa]
    rw [hg, Asv (by omega) (by omega), Aa, Bu (by rw [Bg]; simp), Aa, We _ (by omega), Aa, Int.toNat_natCast, if_pos trivial]
    refine hnext _ _ (by rw [List.length_set]; exact hyl) ?_ (fun i h1 h2 => ?_) hpl
    ·rw [Cq (by rw [List.length_set]; omega)]; simp
    ·have := hy i (by omega) h2
     rw [Cq (by omega)] at this
     rw [Cq (by rw [List.length_set]; omega), List.getElem_set_ne (by omega)]
     exact this
theorem Be9 (kind : Nat) (hk2 : kind = 1 ∨ kind = 2) : Ec b p (kind : Int) = some (Bpc b p f c w r n A l kind) := by
 have hs1 := o.some1
 have h := Bew o kind hk2 l.length 0 Ba [] [] (by omega) (by have := Ap; omega) (by simp) (by simp)
 rw [Ec, Em, if_neg (by simp [Af, Au]; omega), if_neg (by rw [Bg]; simp; omega), o.prog, Aa]
 simp only
 rw [if_neg (by rw [Ah]; simp), Aa]
 simp only
 rw [if_neg (by rw [Ah]; simp), Ajz o.shape o.fit, Aa]
 simp only
 rw [if_neg (by rw [Ah]; simp), Abd]
 refine Eq.trans h ?_
 rw [Fx, Vm, if_neg (by rw [Ah]; simp), Bpc]
 by_cases h2 : Ako kind c w (framesL (longN r) n) (On b p f c w r n A l) l.length 0 [] = []
 ·rw [if_pos h2, if_pos (by rw [h2]; decide)]; rfl
 ·rw [if_neg h2, if_neg (by rw [Bg, Ac]; simpa using h2)]
theorem Bc0 (kind : Nat) (hk2 : kind = 1 ∨ kind = 2) : De b p (kind : Int) = some (Bpc b p f c w r n A l kind) := by
 obtain ⟨hc, hw, hr, hn, _⟩ := Tp o.shape
 have hfit : n ≤ 4000 / c := by have := o.fit; simp only [fitB, decide_eq_true_eq] at this; exact this.1
 have hn4 : n ≤ 4000 := by have := Nat.div_le_self 4000 c; omega
 have hs1 := o.some1
 have hG : ∀ k, k < l.length → (On b p f c w r n A l k).2 = 0 → 1 ≤ (smF w (On b p f c w r n A l k)).length := by
  intro k hk h0
  obtain ⟨m, x, s, e, g⟩ := Xl o k hk
  rw [g.eq] at h0 ⊢
  simp only at h0
  subst h0
  rw [(Afl o g).2.2]
  exact Nat.mul_pos g.pos.1 hc.1
 have hemp := Bb6 c w (framesL (longN r) n) (On b p f c w r n A l) l.length hG l.length 0 [] [] (by omega)
 have hbl := Bnt w (On b p f c w r n A l) l.length
 have h := Asp o kind hk2 (Aqt (On b p f c w r n A l) l.length 0 []) l.length 0 Ba (Baf w (On b p f c w r n A l) l.length 0 []) [] (by omega) (by have := Ap; omega) hbl (fun i _ hi => Box w _ _ i hi) (by simp)
 rw [De, Fq, if_neg (by simp [Af, Au]; omega), if_neg (by rw [Bg]; simp; omega), Bg1 o.pass o.ref, Aa]
 simp only
 rw [if_neg (by rw [Ah]; simp), Beo o, Aa]
 simp only [List.length_nil, Nat.zero_add] at hemp
 rw [Bpc]
 rcases hk2 with rfl | rfl
 ·by_cases h2 : Ako 1 c w (framesL (longN r) n) (On b p f c w r n A l) l.length 0 [] = []
  ·have h3 := hemp.1 (by rw [h2]; rfl)
   rw [if_pos h2]
   simp only
   rw [if_pos (by rw [Bg, Bg, Ac, Ac, h3, hbl]; simp)]; rfl
  ·have h3 : ¬ (Aqt (On b p f c w r n A l) l.length 0 []).length = l.length := fun e => h2 (List.length_eq_zero_iff.1 (hemp.2 e))
   rw [if_neg h2]
   simp only
   rw [if_neg (by rw [Bg, Bg, Ac, Ac, hbl]; simp; omega), Ahy hr.2 hn hn4, Aa]
   exact h
 ·have h2 : Ako 2 c w (framesL (longN r) n) (On b p f c w r n A l) l.length 0 [] ≠ [] := by
   intro e
   obtain ⟨m, x, s, e0, g⟩ := Xl o 0 (by omega)
   have h1 := Bdf 2 c w (framesL (longN r) n) (On b p f c w r n A l) (l.length - 1) 1 ([] ++ Aeh 2 c w (framesL (longN r) n) (On b p f c w r n A l) 0)
   rw [show l.length = (l.length - 1) + 1 by omega, Ako] at e
   rw [e] at h1
   have hp := g.pos
   have hpos : 1 ≤ m * c := Nat.mul_pos hp.1 hc.1
   have hfm := (Ap9 o (kind := 2) g).2
   rw [List.nil_append, Aeh, g.eq, hfm] at h1
   by_cases he : e0 = 0
   ·subst he
    rw [if_neg (by simp), (Afl o g).2.2] at h1
    simp at h1; omega
   ·rw [if_pos he, if_pos rfl] at h1
    simp at h1; omega
  rw [if_neg h2]
  simp only
  rw [if_neg (by rw [Bg, Bg]; simp), Ahy hr.2 hn hn4, Aa]
  exact h
end
theorem Awn {b p : List UInt8} {e : Int} (he : e ≠ 0) (h : seekto_Open b p = some (Akk e)) (kind : Nat) (hk2 : kind = 1 ∨ kind = 2) : Ec b p (kind : Int) = some (Biz e) := by
 rw [Ec, Em, if_neg (by simp [Af, Au]; omega), if_neg (by rw [Bg]; simp; omega), h, Aa, Akk]
 simp only
 rw [if_pos (by rw [Ah]; simpa using he)]; rfl
theorem Avt {b p : List UInt8} {e : Int} (he : e ≠ 0) (h : Hk b p = some (Akk e)) (kind : Nat) (hk2 : kind = 1 ∨ kind = 2) : De b p (kind : Int) = some (Biz e) := by
 rw [De, Fq, if_neg (by simp [Af, Au]; omega), if_neg (by rw [Bg]; simp; omega), h, Aa, Akk]
 simp only
 rw [if_pos (by rw [Ah]; simpa using he)]; rfl
theorem Bm9 (b p : List UInt8) (hb : b.length ≤ 100100) (hp : p.length ≤ 1000) : ∃ y : C5, Ki b p = some y ∧ Dp b p = some y := by
 by_cases h64 : 64 < p.length
 ·refine ⟨Az5 2, ?_, ?_⟩
  ·rw [Ki, Zk, if_pos (by rw [Au, Ac]; simp; omega)]; rfl
  ·rw [Dp, Nl, if_pos (by rw [Au, Ac]; simp; omega)]; rfl
 ·rcases Bks b p hb (by omega) with ⟨e, he, h1, h2, h3, h4⟩ | ⟨f, c, w, r, n, A, l, o, h1, h2⟩
  ·exact ⟨_, h3, h4⟩
  ·exact ⟨_, h1, h2⟩
theorem Bo9 (b p : List UInt8) (hb : b.length ≤ 100100) (hp : p.length ≤ 1000) (kind : Int) : ∃ y : P6', Ec b p kind = some y ∧ De b p kind = some y := by
 by_cases hk : kind < 0 ∨ 2 < kind
 ·refine ⟨Biz 2, ?_, ?_⟩
  ·rw [Ec, Em, if_pos (by simp [Af, Au]; omega)]; rfl
  ·rw [De, Fq, if_pos (by simp [Af, Au]; omega)]; rfl
 ·by_cases h0 : kind = 0
  ·subst h0
   obtain ⟨⟨y1, y2, y3, y4, y5⟩, h1, h2⟩ := Bm9 b p hb hp
   refine ⟨(y1, y2, y3, y4, [], y5), ?_, ?_⟩
   ·rw [Ec, Em, if_neg (by decide), if_pos (by decide), h1, Aa]
   ·rw [De, Fq, if_neg (by decide), if_pos (by decide), h2, Aa]
  ·obtain ⟨k, rfl⟩ := Int.eq_ofNat_of_zero_le (show 0 ≤ kind by omega)
   have hk2 : k = 1 ∨ k = 2 := by omega
   by_cases h64 : 64 < p.length
   ·obtain ⟨h1, h2⟩ := Bb0 b p h64 hp
    exact ⟨_, Awn (by omega) h1 k hk2, Avt (by omega) h2 k hk2⟩
   ·rcases Atp b p hb (by omega) with ⟨e, he, h1, h2⟩ | ⟨f, c, w, r, n, A, l, o⟩
    ·exact ⟨_, Awn he h1 k hk2, Avt he (Bg1 (by omega) h2) k hk2⟩
    ·exact ⟨_, Be9 o k hk2, Bc0 o k hk2⟩
theorem Avq (l : List Int32) (hl : l.length ≤ 4000000) : ∀ (j i q : Nat), i + j = l.length → j < q → Gy l l q (i : Int) = some true
 | 0, i, q + 1, hi, _ => by
  rw [Gy, Nv, if_neg (by rw [Af, Ac]; simp; omega)]; rfl
 | j + 1, i, q + 1, hi, hq => by
  rw [Gy, Nv, if_pos (by rw [Af, Ac]; simp; omega), Cq (by omega), Aa, Aa, if_neg (by rw [Br4]; simp), Ag (by omega) (by omega)]
  exact Avq l hl j (i + 1) q (by omega) (by omega)
theorem Buu (l : List Int32) (hl : l.length ≤ 4000000) : Vq l l = some true := by
 rw [Vq, Wg, if_neg (by rw [Ah]; simp)]
 exact Avq l hl l.length 0 Ba (by omega) (by have := Ap; omega)
theorem Bub (a b c : Int) (l : List Int32) (hl : l.length ≤ 4000000) : Vb a b c l a b c l = some true := by
 have e : ∀ a : Int, geq a a = true := fun a => by rw [Bg]; simp
 rw [Vb, e, e, e, if_pos (by decide), Buu l hl, Aa]
theorem Bfg (kind c w : Nat) (fr : List Int) (G : Nat → List UInt8 × Int) (L : Nat) (hP : ∀ k, k < L → (Aeh kind c w fr G k).length ≤ 4000) : ∀ (j k : Nat) (acc : List Int32), k + j = L → (Ako kind c w fr G j k acc).length ≤ acc.length + 4000 * j
 | 0, k, acc, _ => by rw [Ako]; omega
 | j + 1, k, acc, hk => by
  have h1 := Bfg kind c w fr G L hP j (k + 1) (acc ++ Aeh kind c w fr G k) (by omega)
  have h2 := hP k (by omega)
  rw [List.length_append] at h1
  rw [Ako]; omega
theorem Boi {b p : List UInt8} {f c w r n A : Nat} {l : List Int} (o : Opn b p f c w r n A l) : (Bjp b p f c w r n A l).2.2.2.1.length ≤ 4000000 := by
 have hs1 := o.some1
 have key : ∀ (j k : Nat) (acc : List Int32), k + j = l.length → (Axk (fun k => smF w (On b p f c w r n A l k)) (fun k => (On b p f c w r n A l k).2) (Bmh b A l) j k acc).1.length ≤ acc.length + 4000 * j := by
  intro j
  induction j with
  | zero => intro k acc _; rw [Axk]; split <;> simp
  | succ j ih =>
   intro k acc hk
   obtain ⟨m, x, s, e, g⟩ := Xl o k (by omega)
   rw [Axk]
   split
   ·simp
   ·have h1 := ih (k + 1) (acc ++ smF w (On b p f c w r n A l k)) (by omega)
    rw [g.eq, g.smp (Tp o.shape).2.1] at h1 ⊢
    have h2 := (g.len (Tp o.shape).2.1).2.1
    rw [List.length_append] at h1; omega
 have := key l.length 0 [] (by omega)
 simp only [List.length_nil] at this
 rw [Bjp, An3]
 split
 ·simp [Az5]
 ·simp only; omega
theorem law_PolicyDecodes (b p : List UInt8) (kind : Int) : Lt b p kind = some true := by
 rw [Lt, Acv, Aa]
 by_cases h : (((Hh (Ac b) (5000 : Int)) && (Dh (Ac b) (12000 : Int))) || (Hh (Ac b) (12100 : Int)) || (Hh (Ac p) (100 : Int))) = true
 ·rw [if_pos h]
 ·have hb : b.length ≤ 12100 ∧ p.length ≤ 100 := by
   simp [Au, Af, Ac] at h; omega
  have key : ∃ y : P6', Ec b p kind = some y ∧ De b p kind = some y ∧ y.2.2.2.1.length ≤ 4000000 ∧ y.2.2.2.2.1.length ≤ 1000 := by
   obtain ⟨y, h1, h2⟩ := Bo9 b p (by omega) (by omega) kind
   refine ⟨y, h1, h2, ?_⟩
   by_cases hk : kind < 0 ∨ 2 < kind
   ·rw [Ec, Em, if_pos (by simp [Af, Au]; omega)] at h1
    have := Option.some.inj h1
    subst this; simp
   ·by_cases h0 : kind = 0
    ·subst h0
     by_cases h64 : 64 < p.length
     ·rw [Ec, Em, if_neg (by decide), if_pos (by decide), Ki, Zk, if_pos (by rw [Au, Ac]; simp; omega), Aa] at h1
      have := Option.some.inj h1
      subst this; simp
     ·rcases Bks b p (by omega) (by omega) with ⟨e, he, k1, k2, k3, k4⟩ | ⟨f, c, w, r, n, A, l, o, k1, k2⟩
      ·rw [Ec, Em, if_neg (by decide), if_pos (by decide), k3, Aa] at h1
       have := Option.some.inj h1
       subst this; simp [Az5]
      ·have hl := Boi o
       rw [Ec, Em, if_neg (by decide), if_pos (by decide), k1, Aa] at h1
       have := Option.some.inj h1
       subst this
       exact ⟨hl, by simp⟩
    ·obtain ⟨k, rfl⟩ := Int.eq_ofNat_of_zero_le (show 0 ≤ kind by omega)
     have hk2 : k = 1 ∨ k = 2 := by omega
     by_cases h64 : 64 < p.length
     ·obtain ⟨g1, g2⟩ := Bb0 b p h64 (by omega)
      rw [Awn (by omega) g1 k hk2] at h1
      have := Option.some.inj h1
      subst this; simp [Biz]
     ·rcases Atp b p (by omega) (by omega) with ⟨e, he, g1, g2⟩ | ⟨f, c, w, r, n, A, l, o⟩
      ·rw [Awn he g1 k hk2] at h1
       have := Option.some.inj h1
       subst this; simp [Biz]
      ·rw [Be9 o k hk2] at h1
       have := Option.some.inj h1
       subst this
       have hs1 := o.some1
       have l1 := Axh (On b p f c w r n A l) l.length 0 []
       have l2 := Bfg k c w (framesL (longN r) n) (On b p f c w r n A l) l.length (fun i hi => by
        obtain ⟨m, x, s, e, g⟩ := Xl o i hi
        exact (Ap9 o g).1) l.length 0 [] (by omega)
       simp only [List.length_nil] at l1 l2
       rw [Bpc]
       split
       ·simp [Biz]
       ·exact ⟨by simp only; omega, by simp only; omega⟩
  obtain ⟨⟨y1, y2, y3, y4, y5, y6⟩, h1, h2, h3, h4⟩ := key
  simp only at h3 h4
  rw [if_neg h, h1, h2]
  simp only [Aa]
  rw [Bub _ _ _ _ h3, Aa, if_pos rfl, Bqo y5 (by omega), Aa, Bg]
  simp
end Go.Pl
