/- A part of the proof of a statement of this seat (see the text that ends in Proof): LwSeek, LwOpen, LwFrame, LwBack, LwGot, LwGoes. No conditions of its own. -/
import Derived.Test.YthchpoekjnapnaaGreatDoorSgWA
set_option linter.unusedVariables false
set_option linter.unusedSimpArgs false
namespace Go.Pl
open Go Go.Lv
def okL : List Int → Int → Bool
 | [], _ => true
 | x :: l, left => decide (5 ≤ x ∧ x ≤ left) && okL l (left - x)
theorem Bjr : ∀ l : List Int, (∀ x ∈ l, 5 ≤ x) → 0 ≤ l.sum
 | [], _ => by simp
 | x :: l, h => by
  have h1 := h x List.mem_cons_self
  have h2 := Bjr l fun y hy => h y (List.mem_cons_of_mem _ hy)
  rw [List.sum_cons]; omega
theorem Ate : ∀ (l : List Int) (left : Int), 0 ≤ left → (okL l left = true ↔ (∀ x ∈ l, 5 ≤ x) ∧ l.sum ≤ left)
 | [], left, h => by simp [okL]; exact h
 | x :: l, left, h => by
  rw [okL, Bool.and_eq_true, decide_eq_true_eq, List.sum_cons]
  by_cases hx : 5 ≤ x ∧ x ≤ left
  ·rw [Ate l (left - x) (by omega)]
   constructor
   ·rintro ⟨_, h1, h2⟩
    exact ⟨fun y hy => (List.mem_cons.1 hy).elim (fun e => e ▸ hx.1) (h1 y), by omega⟩
   ·rintro ⟨h1, h2⟩
    exact ⟨hx, fun y hy => h1 y (List.mem_cons_of_mem _ hy), by omega⟩
  ·constructor
   ·rintro ⟨h1, _⟩; exact absurd h1 hx
   ·rintro ⟨h1, h2⟩
    have h3 := h1 x List.mem_cons_self
    have : 0 ≤ l.sum := Bjr l fun y hy => h1 y (List.mem_cons_of_mem _ hy)
    omega
theorem Awf (l : List Int) (hl : l.length ≤ 1000) (hx : ∀ x ∈ l, 0 ≤ x ∧ x < 4294967296) : ∀ (j i q : Nat) (left : Int), i + j = l.length → j < q → 0 ≤ left → left ≤ 100000 → Pb l q left (i : Int) = some (if okL (l.drop i) left = true then 0 else 8)
 | 0, i, q + 1, left, hi, _, _, _ => by
  rw [Pb, Yx, if_neg (by rw [Af, Ac]; simp; omega), show i = l.length by omega, List.drop_length]; rfl
 | j + 1, i, q + 1, left, hi, hq, h0, h1 => by
  have hlt : i < l.length := by omega
  have hb := hx l[i] (List.getElem_mem hlt)
  rw [Pb, Yx, if_pos (by rw [Af, Ac]; simp; omega), Ds hlt, Aa, drop_cons hlt]
  by_cases h : 5 ≤ l[i] ∧ l[i] ≤ left
  ·rw [if_neg (by simp [Af, Bb]; omega), Bg (by omega) (by omega), Ag (by omega) (by omega)]
   have ih := Awf l hl hx j (i + 1) q (left - l[i]) (by omega) (by omega) (by omega) (by omega)
   rw [show ((i : Int) + 1) = ((i + 1 : Nat) : Int) by omega, ih]
   simp [okL, h]
  ·rw [if_pos (by simp [Af, Bb]; omega)]
   have : okL (l[i] :: l.drop (i + 1)) left = false := by rw [okL, decide_eq_false h]; rfl
   rw [this]; rfl
def Awi (l : List Int) : Bool := decide (1 ≤ l.length ∧ l.length ≤ 1000) && okL l 100000
theorem Aur (l : List Int) (hl : l.length ≤ 1000) (hx : ∀ x ∈ l, 0 ≤ x ∧ x < 4294967296) : Aco l = some (if Awi l = true then 0 else 8) := by
 rw [Aco, Afk, Awi]
 by_cases h : 1 ≤ l.length
 ·rw [if_neg (by rw [Cg, Bb, Ac]; simp; constructor; (intro e; subst e; simp at h); omega), Agg]
  have := Awf l hl hx l.length 0 Ba 100000 (by omega) (by have := Au; omega) (by omega) (by omega)
  rw [List.drop_zero] at this
  rw [decide_eq_true (show 1 ≤ l.length ∧ l.length ≤ 1000 from ⟨h, hl⟩), Bool.true_and]
  exact this
 ·have : l = [] := by
   cases l with
   | nil => rfl
   | cons _ _ => simp at h
  subst this; rfl
theorem Ax6 (l : List Int) (hl : l.length ≤ 1000) (hx : ∀ x ∈ l, 0 ≤ x ∧ x < 4294967296) : ∀ (j i q : Nat) (s : Int), i + j = l.length → j < q → 0 ≤ s → s ≤ 100000 * (i : Int) → Fh l q s (i : Int) = some (if (∀ x ∈ l.drop i, 5 ≤ x ∧ x ≤ 100000) ∧ s + (l.drop i).sum ≤ 100000 then 0 else 8)
 | 0, i, q + 1, s, hi, _, _, _ => by
  rw [Fh, Kr, if_neg (by rw [Af, Ac]; simp; omega), show i = l.length by omega, List.drop_length, Pm, Zf]
  by_cases h : s ≤ 100000
  ·rw [if_neg (by rw [Bb]; simp; omega), if_pos (by simp; omega)]
  ·rw [if_pos (by rw [Bb]; simp; omega), if_neg (by simp; omega)]
 | j + 1, i, q + 1, s, hi, hq, h0, h1 => by
  have hlt : i < l.length := by omega
  have hb := hx l[i] (List.getElem_mem hlt)
  rw [Fh, Kr, if_pos (by rw [Af, Ac]; simp; omega), Ds hlt, Aa, drop_cons hlt]
  by_cases h5 : l[i] < 5
  ·rw [if_pos (by rw [Af]; simpa using h5), if_neg (fun h => by have := (h.1 l[i] List.mem_cons_self).1; omega)]
  ·rw [if_neg (by rw [Af]; simpa using h5), Aa]
   by_cases h6 : 100000 < l[i]
   ·rw [if_pos (by rw [Bb]; simpa using h6), if_neg (fun h => by have := (h.1 l[i] List.mem_cons_self).2; omega)]
   ·rw [if_neg (by rw [Bb]; simpa using h6), Rt, Aa5, Ds hlt, Aa, Ag (by omega) (by omega), Ag (by omega) (by omega)]
    have ih := Ax6 l hl hx j (i + 1) q (s + l[i]) (by omega) (by omega) (by omega) (by omega)
    rw [show ((i : Int) + 1) = ((i + 1 : Nat) : Int) by omega, ih]
    have e : ((∀ x ∈ l.drop (i + 1), 5 ≤ x ∧ x ≤ 100000) ∧ s + l[i] + (l.drop (i + 1)).sum ≤ 100000) ↔ ((∀ x ∈ l[i] :: l.drop (i + 1), 5 ≤ x ∧ x ≤ 100000) ∧ s + (l[i] :: l.drop (i + 1)).sum ≤ 100000) := by
     rw [List.sum_cons, List.forall_mem_cons, Int.add_assoc]
     constructor
     ·rintro ⟨a, b⟩; exact ⟨⟨by omega, a⟩, b⟩
     ·rintro ⟨⟨_, a⟩, b⟩; exact ⟨a, b⟩
    simp only [e]
theorem Bd6 : ∀ {l : List Int}, (∀ x ∈ l, 5 ≤ x) → ∀ x ∈ l, x ≤ l.sum
 | [], _, x, hx => by simp at hx
 | y :: l, h, x, hx => by
  have h1 := h y List.mem_cons_self
  have h2 := Bjr l fun z hz => h z (List.mem_cons_of_mem _ hz)
  rw [List.sum_cons]
  rcases List.mem_cons.1 hx with rfl | hx
  ·omega
  ·have := Bd6 (l := l) (fun z hz => h z (List.mem_cons_of_mem _ hz)) x hx
   omega
theorem Big (l : List Int) (hl : l.length ≤ 1000) (hx : ∀ x ∈ l, 0 ≤ x ∧ x < 4294967296) : Qb l = some (if Awi l = true then 0 else 8) := by
 rw [Qb, Sj, Awi]
 by_cases h : 1 ≤ l.length
 ·have := Ax6 l hl hx l.length 0 Ba 0 (by omega) (by have := Au; omega) (by omega) (by omega)
  rw [if_neg (by rw [Af, Bb, Ac]; simp; omega), Rl]
  refine Eq.trans this ?_
  rw [List.drop_zero, decide_eq_true (show 1 ≤ l.length ∧ l.length ≤ 1000 from ⟨h, hl⟩), Bool.true_and]
  have e : ((∀ x ∈ l, 5 ≤ x ∧ x ≤ 100000) ∧ 0 + l.sum ≤ 100000) ↔ okL l 100000 = true := by
   rw [Ate l 100000 (by omega), Int.zero_add]
   constructor
   ·rintro ⟨a, b⟩; exact ⟨fun x hx => (a x hx).1, b⟩
   ·rintro ⟨a, b⟩; exact ⟨fun x hx => ⟨a x hx, Int.le_trans (Bd6 a x hx) b⟩, b⟩
  simp only [e]
 ·have : l = [] := by
   cases l with
   | nil => rfl
   | cons _ _ => simp at h
  subst this; rfl
def Ahw (b : List UInt8) (n : Nat) : List Int := (List.range n).map fun i => (Dy (part b (4 * i) 4) : Int)
theorem Acy (b : List UInt8) (n : Nat) : (Ahw b n).length = n := by simp [Ahw]
theorem Ayg (b : List UInt8) (n : Nat) : Ahw b (n + 1) = Ahw b n ++ [(Dy (part b (4 * n) 4) : Int)] := by simp [Ahw, List.range_succ]
theorem Bgi (b : List UInt8) (n : Nat) (h : 4 * n ≤ b.length) : ∀ x ∈ Ahw b n, 0 ≤ x ∧ x < 4294967296 := by
 intro x hx
 simp only [Ahw, List.mem_map, List.mem_range] at hx
 obtain ⟨i, hi, rfl⟩ := hx
 have := Bgn (l := part b (4 * i) 4) (by rw [Dc (by omega)]; omega)
 omega
def Ng (b : List UInt8) (n : Nat) : List Int × Int :=
 if ¬ (1 ≤ n ∧ n ≤ 1000) then ([], 2) else if b.length < 4 * n + 4 then ([], 24) else if (Gl (b.take (4 * n))).toNat ≠ Dy (part b (4 * n) 4) then ([], 22) else
 if Awi (Ahw b n) = true then (Ahw b n, 0) else ([], 12)
theorem Bgp {b : List UInt8} {n : Nat} (h : 1 ≤ n ∧ n ≤ 1000) (h2 : ¬ b.length < 4 * n + 4) : Ct (Ad (Gl (b.take (4 * n))) : UInt64) (leU (part b (4 * n) 4)) = decide ((Gl (b.take (4 * n))).toNat ≠ Dy (part b (4 * n) 4)) := by
 rw [Aeq, Gv, Bool.eq_iff_iff]
 simp only [bne_iff_ne, ne_eq, decide_eq_true_eq]
 rw [← UInt64.toNat_inj, Ag3 (by have := (Gl (b.take (4 * n))).toNat_lt; omega), Ag7 (by rw [Dc (by omega)]; omega)]
section
variable {b : List UInt8} {n : Nat}
theorem ss1 (h : ¬ (1 ≤ n ∧ n ≤ 1000)) : Ng b n = ([], 2) := by rw [Ng, if_pos h]
variable (h : 1 ≤ n ∧ n ≤ 1000)
include h
theorem ss2 (h2 : b.length < 4 * n + 4) : Ng b n = ([], 24) := by rw [Ng, if_neg (fun e => e h), if_pos h2]
variable (h2 : ¬ b.length < 4 * n + 4)
include h2
theorem ss3 (h3 : (Gl (b.take (4 * n))).toNat ≠ Dy (part b (4 * n) 4)) : Ng b n = ([], 22) := by rw [Ng, if_neg (fun e => e h), if_neg h2, if_pos h3]
theorem ss4 (h3 : (Gl (b.take (4 * n))).toNat = Dy (part b (4 * n) 4)) : Ng b n = if Awi (Ahw b n) = true then (Ahw b n, 0) else ([], 12) := by rw [Ng, if_neg (fun e => e h), if_neg h2, if_neg (fun e => e h3)]
end
theorem Ayb (b : List UInt8) (l8 : List Int) (n : Nat) (hn : n ≤ 1000) (h8 : l8.length = n) (hb : 4 * n + 4 ≤ b.length) (hb2 : b.length < 4611686018427387904) : ∀ (j i q : Nat), i + j = n → j < q → Rb b l8 q (i : Int) (Ahw b i ++ List.replicate j 0) = Aca (Ahw b n)
 | 0, i, q + 1, hi, _ => by
  obtain rfl : i = n := by omega
  rw [Rb, Ab9, if_neg (by rw [Af, Ac]; simp; omega)]; simp
 | j + 1, i, q + 1, hi, hq => by
  have hlen : (Ahw b i ++ List.replicate (j + 1) 0).length = i + (j + 1) := by simp [Acy]
  have ha := Axw b (4 * i) 4 (by omega) (by omega) (by omega) hb2
  rw [Rb, Ab9, if_pos (by rw [Af, Ac]; simp; omega), Gz (by omega) (by omega), show (4 : Int) * (i : Int) = ((4 * i : Nat) : Int) by omega, show (4 : Int) = ((4 : Nat) : Int) from rfl, ha, Aa]
  simp only
  rw [Ds (by rw [hlen]; omega), Aa, Vz _ (by rw [hlen]; omega), Aa, Acg (by rw [Dc (by omega)]; omega), Ag (by omega) (by omega), List.replicate_succ, Anl (Acy _ _)]
  have ih := Ayb b l8 n hn h8 hb hb2 j (i + 1) q (by omega) (by omega)
  rw [Ayg] at ih
  rw [show ((i : Int) + 1) = ((i + 1 : Nat) : Int) by omega, ← ih]
  simp
theorem Bhu (b : List UInt8) (n : Nat) (hb : b.length ≤ 100100) : Ajm b (n : Int) = some (Ng b n) := by
 rw [Ajm, Ah9]
 by_cases h : 1 ≤ n ∧ n ≤ 1000
 ·rw [if_neg (by simp [Af, Bb]; omega), Gz (by omega) (by omega), Ag (by omega) (by omega)]
  by_cases h2 : b.length < 4 * n + 4
  ·rw [if_pos (by rw [Af, Ac]; simp; omega), ss2 h h2]
  ·have ha : Ai1 b (4 * (n : Int)) 4 = some (leU (part b (4 * n) 4), 0) := by
    rw [show (4 : Int) * (n : Int) = ((4 * n : Nat) : Int) by omega]
    exact Axw b (4 * n) 4 (by omega) (by omega) (by omega) (by omega)
   rw [if_neg (by rw [Af, Ac]; simp; omega), ha, Aa]
   simp only
   rw [Jm (by omega) (by omega), Aa, show (4 * (n : Int)).toNat = 4 * n by omega, Be4 _ (by simp; omega), Aa]
   simp only
   rw [Bgp h h2]
   by_cases h3 : (Gl (b.take (4 * n))).toNat = Dy (part b (4 * n) 4)
   ·have hlp := Ayb b (List.replicate n 0) n (by omega) (by simp) (by omega) (by omega) n 0 Ba (by omega) (by have := Au; omega)
    rw [if_neg (by simpa using h3), At9 (by omega) (by omega), Aa, Cm (by rw [Cg]; simp), Aa, Ahj, Int.toNat_natCast]
    refine Eq.trans (hlp) ?_
    rw [Aca, An2, Aur _ (by rw [Acy]; omega) (Bgi b n (by omega)), Aa, ss4 h h2 h3]
    cases Awi (Ahw b n) <;> rfl
   ·rw [if_pos (by simpa using h3), ss3 h h2 h3]
 ·rw [if_pos (by simp [Af, Bb]; omega), ss1 h]
theorem An4 (b : List UInt8) (n : Nat) (hn : n ≤ 1000) (hb : 4 * n + 4 ≤ b.length) (hb2 : b.length < 4611686018427387904) : ∀ (j i q : Nat), i + j = n → j < q → Fu b (n : Int) q (i : Int) (Ahw b i) = Lp (Ahw b n)
 | 0, i, q + 1, hi, _ => by
  obtain rfl : i = n := by omega
  rw [Fu, Lr, if_neg (by rw [Af]; simp)]
 | j + 1, i, q + 1, hi, hq => by
  have hc : Ca b ((4 : Int) * (i : Int)) ((4 : Int) * (i : Int) + 4) = some (part b (4 * i) 4) := by
   rw [show (4 : Int) * (i : Int) = ((4 * i : Nat) : Int) by omega]
   exact Mi (4 * i) 4 (by omega)
  rw [Fu, Lr, if_pos (by rw [Af]; simp; omega), Gz (by omega) (by omega), Ag (by omega) (by omega), hc, Aa, Ba3 _ (by rw [Dc (by omega)]; omega), Aa, Gc (by rw [Acy]; simp; omega), Aa,
   Acg (by rw [Dc (by omega)]; omega), Ag (by omega) (by omega), ← Ayg]
  exact An4 b n hn hb hb2 j (i + 1) q (by omega) (by omega)
theorem Blw (b : List UInt8) (n : Nat) (hb : b.length ≤ 100100) : Tl b (n : Int) = some (Ng b n) := by
 rw [Tl, Un]
 by_cases h : 1 ≤ n ∧ n ≤ 1000
 ·rw [if_neg (by simp [Af, Bb]; omega), Gz (by omega) (by omega), Ag (by omega) (by omega)]
  by_cases h2 : b.length < 4 * n + 4
  ·rw [if_pos (by rw [Af, Ac]; simp; omega), ss2 h h2]
  ·have hc : Ca b ((4 : Int) * (n : Int)) ((4 : Int) * (n : Int) + 4) = some (part b (4 * n) 4) := by
    rw [show (4 : Int) * (n : Int) = ((4 * n : Nat) : Int) by omega]
    exact Mi (4 * n) 4 (by omega)
   have hs : Ct (leU (part b (4 * n) 4)) (Ad (Gl (b.take (4 * n))) : UInt64) = decide ((Gl (b.take (4 * n))).toNat ≠ Dy (part b (4 * n) 4)) := by
    rw [← Bgp h h2, Aeq, Aeq, Bool.eq_iff_iff]; simp only [bne_iff_ne, ne_eq]; exact not_congr eq_comm
   rw [if_neg (by rw [Af, Ac]; simp; omega), hc, Aa, Jm (by omega) (by omega), Aa, show (4 * (n : Int)).toNat = 4 * n by omega, Ba3 _ (by rw [Dc (by omega)]; omega), Aa, Bkf _ (by simp; omega), Aa, hs]
   by_cases h3 : (Gl (b.take (4 * n))).toNat = Dy (part b (4 * n) 4)
   ·have hlp := An4 b n (by omega) (by omega) (by omega) n 0 Ba (by omega) (by have := Au; omega)
    rw [if_neg (by simpa using h3), Ul, Tx, Ur]
    refine Eq.trans hlp ?_
    rw [Lp, Ade, Big _ (by rw [Acy]; omega) (Bgi b n (by omega)), Aa, ss4 h h2 h3]
    cases Awi (Ahw b n) <;> rfl
   ·rw [if_pos (by simpa using h3), ss3 h h2 h3]
 ·rw [if_pos (by simp [Af, Bb]; omega), ss1 h]
theorem Aux {b : List UInt8} {n : Nat} (h : (Ng b n).2 = 0) : Ng b n = (Ahw b n, 0) ∧ 1 ≤ n ∧ n ≤ 1000 ∧ 4 * n + 4 ≤ b.length ∧ (∀ x ∈ Ahw b n, 5 ≤ x) ∧ (Ahw b n).sum ≤ 100000 := by
 unfold Ng at h ⊢
 split at h; · simp at h
 rename_i c1; rw [if_neg c1]
 split at h; · simp at h
 rename_i c2; rw [if_neg c2]
 split at h; · simp at h
 rename_i c3; rw [if_neg c3]
 split at h
 ·rename_i c4
  rw [if_pos c4]
  have c4' := c4
  rw [Awi, Bool.and_eq_true, Ate _ _ (by omega)] at c4'
  exact ⟨rfl, by omega, by omega, by omega, c4'.2.1, c4'.2.2⟩
 ·simp at h
end Go.Pl
set_option linter.unusedVariables false
set_option linter.unusedSimpArgs false
namespace Go.Pl
open Go Go.Lv
def hdr (b : List UInt8) : List UInt8 := b.drop (frontS b).1.toNat
abbrev Op8 := Int × Int × Int × Int × Int × Int × (List Int) × Int
def Anw (e : Int) : Op8 := (0, 0, 0, 0, 0, 0, [], e)
theorem Bjw (A K : Nat) (h : A ≤ 200000) (hk : K ≤ 1000) : Ae (Ae (A : Int) (Bj 4 (K : Int))) 4 = ((A + 4 * K + 4 : Nat) : Int) := by
 rw [Gz (by omega) (by omega), Ag (a := (A : Int)) (by omega) (by omega), Ag (by omega) (by omega)]; omega
theorem Bif {f c w r n : Nat} (h1 : shapeB f c w r n = true) (h2 : fitB c r n = true) (b : List UInt8) (hb : b.length ≤ 100100) (A : Nat) (hA : A ≤ b.length) :
  Uk b (f : Int) (c : Int) (w : Int) (r : Int) (n : Int) (A : Int) =
   some (if (Ng (b.drop A) (framesL (longN r) n).length).2 ≠ 0 then Anw (Ng (b.drop A) (framesL (longN r) n).length).2 else ((f : Int), (c : Int), (w : Int), (r : Int), (n : Int), ((A + 4 * (framesL (longN r) n).length + 4 : Nat) : Int), (Ng (b.drop A) (framesL (longN r) n).length).1, 0)) := by
 rw [Uk, Ame, Arr h1 h2, Aa]
 simp only
 rw [if_neg (by rw [Am]; simp), Lk (by omega) (by omega), Aa, Ac, show (A : Int).toNat = A from rfl, Bhu _ _ (by simp; omega), Aa]
 by_cases h : (Ng (b.drop A) (framesL (longN r) n).length).2 ≠ 0
 ·rw [if_pos h, if_pos (by rw [Am]; simpa using h)]; rfl
 ·have h0 : (Ng (b.drop A) (framesL (longN r) n).length).2 = 0 := by simpa using h
  obtain ⟨g1, g2, g3, g4, g5, g6⟩ := Aux h0
  have gl : (Ng (b.drop A) (framesL (longN r) n).length).1.length = (framesL (longN r) n).length := by rw [g1]; exact Acy _ _
  rw [if_neg h, if_neg (by rw [Am]; simpa using h), Ac, gl, Bjw _ _ (by omega) (by omega)]
theorem Bmm {f c w r n : Nat} (h1 : shapeB f c w r n = true) (h2 : fitB c r n = true) (b : List UInt8) (hb : b.length ≤ 100100) (A : Nat) (hA : A ≤ b.length) :
  Gi b (f : Int) (c : Int) (w : Int) (r : Int) (n : Int) (A : Int) =
   some (if (Ng (b.drop A) (framesL (longN r) n).length).2 ≠ 0 then Anw (Ng (b.drop A) (framesL (longN r) n).length).2 else ((f : Int), (c : Int), (w : Int), (r : Int), (n : Int), ((A + 4 * (framesL (longN r) n).length + 4 : Nat) : Int), (Ng (b.drop A) (framesL (longN r) n).length).1, 0)) := by
 have hs : (1 ≤ r ∧ r ≤ 1048576) ∧ 1 ≤ n ∧ 1 ≤ c := by
  simp only [shapeB, decide_eq_true_eq] at h1; omega
 have hf : n ≤ 4000 := by
  simp only [fitB, decide_eq_true_eq] at h2
  have := Nat.div_le_self 4000 c
  omega
 rw [Gi, Pq, Lk (by omega) (by omega), Aa, Apm hs.1.2 hs.2.1 hf, Aa, Ac, show (A : Int).toNat = A from rfl, Blw _ _ (by simp; omega), Aa]
 simp only
 rw [Qr, Aap]
 by_cases h : (Ng (b.drop A) (framesL (longN r) n).length).2 ≠ 0
 ·rw [if_pos h, if_pos (by rw [Am]; simpa using h)]; rfl
 ·have h0 : (Ng (b.drop A) (framesL (longN r) n).length).2 = 0 := by simpa using h
  obtain ⟨g1, g2, g3, g4, g5, g6⟩ := Aux h0
  have gl : (Ng (b.drop A) (framesL (longN r) n).length).1.length = (framesL (longN r) n).length := by rw [g1]; exact Acy _ _
  rw [if_neg h, if_neg (by rw [Am]; simpa using h), Ac, gl, Bjw _ _ (by omega) (by omega)]
structure Opn (b p : List UInt8) (f c w r n A : Nat) (l : List Int) : Prop where
 prog : seekto_Open b p = some ((f : Int), (c : Int), (w : Int), (r : Int), (n : Int), (A : Int), l, 0)
 ref : cadenzaref40_Opened b p = some ((f : Int), (c : Int), (w : Int), (r : Int), (n : Int), (A : Int), l, 0)
 pass : p.length ≤ 64
 file : b.length ≤ 100000
 shape : shapeB f c w r n = true
 fit : fitB c r n = true
 len : l.length = (framesL (longN r) n).length
 some1 : 1 ≤ l.length ∧ l.length ≤ 1000
 five : ∀ x ∈ l, 5 ≤ x
 sum : l.sum ≤ 100000
 at' : A ≤ b.length
 tag : (frontS b).2 = 0
 pos : A = (frontS b).1.toNat + 22 + (if f = 2 then 8 else 0) + 4 * l.length + 4
theorem Bgg (b p : List UInt8) (hb : b.length ≤ 100100) (hp : p.length ≤ 64) :
  (∃ e : Int, e ≠ 0 ∧ seekto_Open b p = some (Anw e) ∧ cadenzaref40_Opened b p = some (Anw e)) ∨ (∃ f c w r n A l, Opn b p f c w r n A l) := by
 by_cases h1 : 100000 < b.length
 ·refine .inl ⟨4, by omega, ?_, ?_⟩
  ·rw [seekto_Open, Tn, if_neg (by rw [Bb, Ac]; simp; omega), if_pos (by rw [Bb, Ac]; simp; omega)]; rfl
  ·rw [cadenzaref40_Opened, Jn, if_pos (by rw [Bb, Ac]; simp; omega)]; rfl
 have hP : seekto_Open b p = seekto_Open b p := rfl
 have hR : cadenzaref40_Opened b p = cadenzaref40_Opened b p := rfl
 conv at hP => rhs; rw [seekto_Open, Tn, if_neg (by rw [Bb, Ac]; simp; omega), if_neg (by rw [Bb, Ac]; simp; omega), Awd b (by omega), Aa]
 conv at hR => rhs; rw [cadenzaref40_Opened, Jn, if_neg (by rw [Bb, Ac]; simp; omega), Baa b (by omega), Aa]
 by_cases h2 : (frontS b).2 = 0
 ·obtain ⟨p0, p1, p2⟩ := Bho h2
  have hc := Lk (l := b) p0 p1
  simp only [h2] at hP hR
  rw [if_neg (by rw [Am]; simp), hc, Aa, show b.drop (frontS b).1.toNat = hdr b from rfl, Bix _ (by simp [hdr]; omega), Aa] at hP
  rw [if_neg (by rw [Am]; simp), hc, Aa, show b.drop (frontS b).1.toNat = hdr b from rfl, Bmt _ (by simp [hdr]; omega), Aa] at hR
  by_cases h3 : (Aak (hdr b)).2.2.2.2.2 = 0
  ·obtain ⟨g1, g2, g3, g4⟩ := Bma h3
   have hlen : (hdr b).length = b.length - (frontS b).1.toNat := by simp [hdr]
   generalize hF : (frontS b).1.toNat = F at *
   have hF' : (frontS b).1 = (F : Int) := by omega
   rw [g1, hF'] at hP hR
   simp only at hP hR
   generalize f0 (hdr b) = f at *
   generalize f1 (hdr b) = c at *
   generalize f2 (hdr b) = w at *
   generalize f3 (hdr b) = r at *
   generalize f4 (hdr b) = n at *
   have t22 : Ae (F : Int) 22 = ((F + 22 : Nat) : Int) := by rw [Ag (by omega) (by omega)]; omega
   have t30 : Ae ((F + 22 : Nat) : Int) 8 = ((F + 30 : Nat) : Int) := by rw [Ag (by omega) (by omega)]; omega
   have hf12 : f = 1 ∨ f = 2 := by simp only [shapeB, decide_eq_true_eq] at g3; omega
   rw [if_neg (by rw [Am]; simp), t22, t30] at hP hR
   have hend : ∀ A : Nat, A ≤ b.length → A = F + 22 + (if f = 2 then 8 else 0) → seekto_Open b p = Uk b (f : Int) (c : Int) (w : Int) (r : Int) (n : Int) (A : Int) → cadenzaref40_Opened b p = Gi b (f : Int) (c : Int) (w : Int) (r : Int) (n : Int) (A : Int) →
     (∃ e : Int, e ≠ 0 ∧ seekto_Open b p = some (Anw e) ∧ cadenzaref40_Opened b p = some (Anw e)) ∨ (∃ f c w r n A l, Opn b p f c w r n A l) := by
    intro A hA hA2 e1 e2
    rw [Bif g3 g4 b hb A hA] at e1
    rw [Bmm g3 g4 b hb A hA] at e2
    by_cases h : (Ng (b.drop A) (framesL (longN r) n).length).2 ≠ 0
    ·rw [if_pos h] at e1 e2
     exact .inl ⟨_, h, e1, e2⟩
    ·have h0 : (Ng (b.drop A) (framesL (longN r) n).length).2 = 0 := by simpa using h
     obtain ⟨k1, k2, k3, k4, k5, k6⟩ := Aux h0
     have gl : (Ng (b.drop A) (framesL (longN r) n).length).1.length = (framesL (longN r) n).length := by rw [k1]; exact Acy _ _
     rw [if_neg h] at e1 e2
     rw [List.length_drop] at k4
     refine .inr ⟨f, c, w, r, n, _, _, ⟨e1, e2, hp, by omega, g3, g4, gl, by omega, by rw [k1]; exact k5, by rw [k1]; exact k6, by omega, h2, by rw [gl, hF, ← hA2]⟩⟩
   by_cases hpass : ((p == ([] : List UInt8)) != (geq (f : Int) (1 : Int))) = true
   ·rw [if_pos hpass] at hP hR
    exact .inl ⟨26, by omega, hP, hR⟩
   ·rw [if_neg hpass] at hP hR
    have hpf : (p = [] ↔ f = 1) := by
     rw [Cg] at hpass
     have h5 : (p == ([] : List UInt8)) = ((f : Int) == 1) := by simpa using hpass
     have h6 : (p == ([] : List UInt8)) = true ↔ ((f : Int) == 1) = true := by rw [h5]
     rw [beq_iff_eq, beq_iff_eq] at h6
     rw [h6]; omega
    by_cases h5 : f = 2
    ·have hpne : p ≠ [] := fun e => by have := hpf.1 e; omega
     have h64 : (p != ([] : List UInt8)) = true := by simpa using hpne
     rw [if_pos h64] at hP
     rw [if_pos (by rw [Cg, h5]; rfl), Bg (by rw [Ac]; omega) (by rw [Ac]; omega)] at hR
     by_cases h6 : b.length < F + 30
     ·rw [if_pos (by rw [Af, Ac]; simp; omega)] at hP hR
      exact .inl ⟨24, by omega, hP, hR⟩
     ·have hseg : ((b.take (F + 30)).drop (F + 22)).length = 8 := by simp; omega
      rw [if_neg (by rw [Af, Ac]; simp; omega), Xc (by omega) (by omega) (by omega), Aa] at hP hR
      rw [Akn, Bhr p hp, Aa] at hP
      rw [Bit p hp, Aa] at hR
      simp only at hP
      rw [if_neg (by rw [Am, Am, Ac, Ac, Nk, show ((F + 30 : Nat) : Int).toNat = F + 30 from rfl, show ((F + 22 : Nat) : Int).toNat = F + 22 from rfl, hseg]; simp), Gw, Aa, Aa] at hP
      simp only at hP
      rw [if_neg (by rw [Am]; simp)] at hP
      generalize (b.take ((F + 30 : Nat) : Int).toNat).drop ((F + 22 : Nat) : Int).toNat = seg at *
      by_cases h7 : seg = leB (Afb p).toNat 8
      ·rw [if_neg (by simp [h7])] at hP
       rw [if_neg (by simp [h7])] at hR
       exact hend (F + 30) (by omega) (by rw [if_pos h5]) hP hR
      ·rw [if_pos (by simpa using h7)] at hP
       rw [if_pos (by simpa using h7)] at hR
       exact .inl ⟨26, by omega, hP, hR⟩
    ·have hpe : p = [] := hpf.2 (by omega)
     rw [if_neg (by rw [hpe]; simp)] at hP
     rw [if_neg (by rw [Cg]; simp; omega)] at hR
     exact hend (F + 22) (by omega) (by rw [if_neg h5]) hP hR
  ·generalize Aak (hdr b) = v at *
   obtain ⟨v1, v2, v3, v4, v5, v6⟩ := v
   simp only at h3 hP hR
   rw [if_pos (by rw [Am]; simpa using h3)] at hP hR
   exact .inl ⟨v6, h3, hP, hR⟩
 ·generalize frontS b = v at *
  obtain ⟨v, e⟩ := v
  simp only at h2 hP hR
  rw [if_pos (by rw [Am]; simpa using h2)] at hP hR
  exact .inl ⟨e, h2, hP, hR⟩
end Go.Pl
set_option linter.unusedVariables false
set_option linter.unusedSimpArgs false
namespace Go.Pl
open Go Go.Lv
theorem Biu (l : List Int) (i : Nat) : (l.take i).sum + (l.drop i).sum = l.sum := by
 conv => rhs; rw [← List.take_append_drop i l, List.sum_append]
theorem Ms {l : List Int} (h5 : ∀ x ∈ l, 5 ≤ x) (i : Nat) : 0 ≤ (l.take i).sum ∧ (l.take i).sum ≤ l.sum := by
 have h1 := Bjr (l.take i) fun x hx => h5 x (List.mem_of_mem_take hx)
 have h2 := Bjr (l.drop i) fun x hx => h5 x (List.mem_of_mem_drop hx)
 have := Biu l i
 omega
theorem Acd {l : List Int} {i : Nat} (h : i < l.length) : (l.take (i + 1)).sum = (l.take i).sum + l[i] := by
 rw [Aid h, List.sum_append]; simp
def Apz (l : List Int) (n : Nat) : List Int := (List.range n).map fun i => (l.take i).sum
theorem Bb3 (l : List Int) (n : Nat) : (Apz l n).length = n := by simp [Apz]
theorem Bhf (l : List Int) (n : Nat) : Apz l (n + 1) = Apz l n ++ [(l.take n).sum] := by simp [Apz, List.range_succ]
theorem Auc (l : List Int) {n i : Nat} (h : i < n) : getI (Apz l n) (i : Int) = some ((l.take i).sum) := by
 rw [Ds (by rw [Bb3]; exact h)]; simp [Apz]
section
variable {l : List Int} (hl : l.length ≤ 1000) (h5 : ∀ x ∈ l, 5 ≤ x) (hs : l.sum ≤ 100000)
include hl h5 hs
theorem Axb : ∀ (j i q : Nat), i + j = l.length → j < q → Jr l q (i : Int) ((l.take i).sum) (Apz l (i + 1)) = some (Apz l (l.length + 1), 0)
 | 0, i, q + 1, hi, _ => by
  rw [Jr, Vh, if_neg (by rw [Af, Ac]; simp; omega), show i = l.length by omega]; rfl
 | j + 1, i, q + 1, hi, hq => by
  have hlt : i < l.length := by omega
  have ih := Axb j (i + 1) q (by omega) (by omega)
  have b1 := Ms h5 i
  have b2 := Ms h5 (i + 1)
  have e := Acd hlt
  rw [Bhf l (i + 1), e] at ih
  rw [Jr, Vh, if_pos (by rw [Af, Ac]; simp; omega), Ds hlt, Aa, Ag (by omega) (by omega), Gc (by simp [Bb3]; omega), Aa, Abd, Aii, Ag (by omega) (by omega), Ag (by omega) (by omega)]
  exact ih
theorem Bm4 (h1 : 1 ≤ l.length) : Acb l = some (Apz l (l.length + 1), 0) := by
 have h := Axb hl h5 hs l.length 0 Ba (by omega) (by have := Au; omega)
 have hx : ∀ x ∈ l, 0 ≤ x ∧ x < 4294967296 := fun x hx => by
  have := Bd6 h5 x hx
  have := h5 x hx
  omega
 have ht : Awi l = true := by
  rw [Awi, Bool.and_eq_true]
  exact ⟨by simpa using ⟨h1, hl⟩, (Ate l 100000 (by omega)).2 ⟨h5, hs⟩⟩
 rw [Acb, Abn, Aur l hl hx, Aa, if_pos ht, if_neg (by rw [Am]; simp)]
 exact h
theorem Avd (f c w r n A : Int) (hA : 0 ≤ A) (hA2 : A ≤ 200000) (k : Nat) (hk : k ≤ l.length) : ∀ (j i q : Nat), i + j = k → j < q → Fg (k : Int) f c w r n A l q (A + (l.take i).sum) (i : Int) = some (A + (l.take k).sum)
 | 0, i, q + 1, hi, _ => by
  rw [Fg, Ko, if_neg (by rw [Af]; simp; omega), show i = k by omega]; rfl
 | j + 1, i, q + 1, hi, hq => by
  have hlt : i < l.length := by omega
  have ih := Avd f c w r n A hA hA2 k hk j (i + 1) q (by omega) (by omega)
  have b1 := Ms h5 i
  have b2 := Ms h5 (i + 1)
  have e := Acd hlt
  rw [e, ← Int.add_assoc] at ih
  rw [Fg, Ko, if_pos (by rw [Af]; simp; omega), Ds hlt, Aa, Ag (by omega) (by omega), Ag (by omega) (by omega)]
  exact ih
theorem Aym (f c w r n A : Int) (hA : 0 ≤ A) (hA2 : A ≤ 200000) (k : Nat) (hk : k ≤ l.length) : Kh f c w r n A l (k : Int) = some (A + (l.take k).sum) := by
 have h := Avd hl h5 hs f c w r n A hA hA2 k hk k 0 Ba (by omega) (by have := Au; omega)
 rw [List.take_zero, List.sum_nil, Int.add_zero] at h
 exact h
end
theorem Bfh {g n : Nat} (hg : 1 ≤ g) (hn : 1 ≤ n) {x : Int} (h : x ∈ framesL g n) : ∃ m : Nat, x = m ∧ 1 ≤ m ∧ m ≤ n := by
 have hmul := Nat.div_mul_le_self (n - 1) g
 rw [framesL, List.mem_append] at h
 rcases h with h | h
 ·rw [List.mem_replicate] at h
  have h1 : 1 ≤ (n - 1) / g := Nat.pos_of_ne_zero h.1
  have := Nat.mul_le_mul_right g h1
  exact ⟨g, h.2, hg, by omega⟩
 ·rw [List.mem_singleton] at h
  exact ⟨_, h, by omega, by omega⟩
theorem Af4 {f c w r n : Nat} (h : shapeB f c w r n = true) : (1 ≤ c ∧ c ≤ 6) ∧ Du (w : Int) ∧ (1 ≤ r ∧ r ≤ 1048576) ∧ 1 ≤ n ∧ (f = 1 ∨ f = 2) := by
 simp only [shapeB, decide_eq_true_eq] at h
 refine ⟨h.2.1, ?_, h.2.2.2.1, h.2.2.2.2, h.1⟩
 rcases h.2.2.1 with rfl | rfl | rfl
 ·exact .inl rfl
 ·exact .inr (.inl rfl)
 ·exact .inr (.inr rfl)
theorem Apr {b p : List UInt8} (hp : p.length ≤ 64) {y : Op8} (h : cadenzaref40_Opened b p = some y) : Ea b p = some y := by
 rw [Ea, if_neg (by rw [Bb, Ac]; simp; omega), h, Aa]
theorem Ax1 (b p : List UInt8) (hp : 64 < p.length) (hp2 : p.length ≤ 1000) : seekto_Open b p = some (Anw 2) ∧ Ea b p = some (Anw 2) := by
 constructor
 ·rw [seekto_Open, Tn, if_pos (by rw [Bb, Ac]; simp; omega)]; rfl
 ·rw [Ea, if_pos (by rw [Bb, Ac]; simp; omega)]; rfl
end Go.Pl
set_option linter.unusedVariables false
set_option linter.unusedSimpArgs false
namespace Go.Pl
open Go Go.Lv
theorem Bqg (n m : Nat) : Lc n m 0 ≠ Lc n m 2147483648 := by
 intro h
 simp [Lc, leB, APE] at h
def Bk (b : List UInt8) : List UInt8 := b.drop (b.length - 32)
theorem Bci {b : List UInt8} (h : 32 ≤ b.length) : (Bk b).length = 32 := by rw [Bk, List.length_drop]; omega
def itA (t : List UInt8) : Nat := Dy (part t 12 4) - 32
def mnA (t : List UInt8) : Nat := Dy (part t 16 4)
def Tv (b : List UInt8) : Int × Int :=
 if ¬ (32 ≤ b.length ∧ (Bk b).take 8 = APE) then (0, 6) else if Ac9 (Bk b) = true then (0, 12) else
 if Bk b = Lc (itA (Bk b)) (mnA (Bk b)) 0 then (if b.length < itA (Bk b) + 32 then (0, 24) else (((itA (Bk b) + 32 : Nat) : Int), 0)) else
 if Bk b ≠ Lc (itA (Bk b)) (mnA (Bk b)) 2147483648 then (0, 12) else
 if b.length < itA (Bk b) + 64 then (0, 24) else
 if (b.take (b.length - (itA (Bk b) + 64) + 32)).drop (b.length - (itA (Bk b) + 64)) ≠ Lc (itA (Bk b)) (mnA (Bk b)) 2684354560 then (0, 12) else (((itA (Bk b) + 64 : Nat) : Int), 0)
section
variable {b : List UInt8}
theorem ba1 (h : ¬ (32 ≤ b.length ∧ (Bk b).take 8 = APE)) : Tv b = (0, 6) := by rw [Tv, if_pos h]
variable (h : 32 ≤ b.length ∧ (Bk b).take 8 = APE)
include h
theorem ba2 (h2 : Ac9 (Bk b) = true) : Tv b = (0, 12) := by rw [Tv, if_neg (fun h' => h' h), if_pos h2]
variable (h2 : Ac9 (Bk b) = false)
include h2
theorem ba3 (h3 : Bk b = Lc (itA (Bk b)) (mnA (Bk b)) 0) : Tv b = if b.length < itA (Bk b) + 32 then (0, 24) else (((itA (Bk b) + 32 : Nat) : Int), 0) := by
 rw [Tv, if_neg (fun h' => h' h), if_neg (by rw [h2]; simp), if_pos h3]
variable (h3 : Bk b ≠ Lc (itA (Bk b)) (mnA (Bk b)) 0)
include h3
theorem ba4 (h4 : Bk b ≠ Lc (itA (Bk b)) (mnA (Bk b)) 2147483648) : Tv b = (0, 12) := by
 rw [Tv, if_neg (fun h' => h' h), if_neg (by rw [h2]; simp), if_neg h3, if_pos h4]
variable (h4 : Bk b = Lc (itA (Bk b)) (mnA (Bk b)) 2147483648)
include h4
theorem ba5 (h5 : b.length < itA (Bk b) + 64) : Tv b = (0, 24) := by
 rw [Tv, if_neg (fun h' => h' h), if_neg (by rw [h2]; simp), if_neg h3, if_neg (fun e => e h4), if_pos h5]
theorem ba6 (h5 : ¬ b.length < itA (Bk b) + 64) : Tv b = if (b.take (b.length - (itA (Bk b) + 64) + 32)).drop (b.length - (itA (Bk b) + 64)) ≠ Lc (itA (Bk b)) (mnA (Bk b)) 2684354560 then (0, 12) else (((itA (Bk b) + 64 : Nat) : Int), 0) := by
 rw [Tv, if_neg (fun h' => h' h), if_neg (by rw [h2]; simp), if_neg h3, if_neg (fun e => e h4), if_neg h5]
end
theorem Bbb {b : List UInt8} {n : Int} (h : Tv b = (n, 0)) : 32 ≤ n ∧ n ≤ b.length := by
 unfold Tv at h
 split at h; · simp at h
 rename_i h32
 split at h; · simp at h
 split at h
 ·split at h; · simp at h
  simp only [Prod.mk.injEq, and_true] at h; omega
 split at h; · simp at h
 split at h; · simp at h
 split at h; · simp at h
 simp only [Prod.mk.injEq, and_true] at h; omega
theorem Bi6 {b : List UInt8} (h : (Tv b).2 ≠ 0) : (Tv b).1 = 0 := by
 revert h
 unfold Tv
 split; · simp
 split; · simp
 split
 ·split <;> simp
 split; · simp
 split; · simp
 split <;> simp
theorem Bky {b : List UInt8} (h : 32 ≤ b.length) (hl : b.length < 4611686018427387904) : Ak (Ac b) 32 = ((b.length - 32 : Nat) : Int) ∧ Ca b ((b.length - 32 : Nat) : Int) (Ac b) = some (Bk b) := by
 refine ⟨by rw [Ac, Bg (by omega) (by omega)]; omega, ?_⟩
 rw [Lk (by omega) (by omega)]; rfl
theorem Bg8 (b : List UInt8) (hl : b.length < 4611686018427387904) : Ap5 b = some (Tv b) := by
 rw [Ap5, Amq]
 by_cases h32 : 32 ≤ b.length
 ·obtain ⟨e1, e2⟩ := Bky h32 hl
  have hl3 := Bci h32
  rw [if_neg (by rw [e1, Af]; simp), e1, e2, Aa, Ajq, Aa]
  by_cases hp : (Bk b).take 8 = APE
  ·have h := And.intro h32 hp
   rw [if_neg (by simpa [APE, hl3] using hp), Amu, Ass, e1, e2, Aa, Aks _ 0 (by omega) (by omega) (by decide), Aa]
   cases hb : Ac9 (Bk b) with
   | true =>
    rw [ba2 h hb]
    simp only [if_true, Bool.false_eq_true, if_false]
    rw [Aa, Aks _ 2147483648 (by omega) (by omega) (by decide), Aa, hb]; rfl
   | false =>
    obtain ⟨i1, i2, i3, i4⟩ := Aq5 (Bk b) (by omega) hb
    have eI : Dy (part (Bk b) 12 4) - 32 = itA (Bk b) := rfl
    have eM : Dy (part (Bk b) 16 4) = mnA (Bk b) := rfl
    simp only [Bool.false_eq_true, if_false]
    rw [eI] at i3
    rw [eM] at i4
    rw [eI, eM]
    by_cases c1 : Bk b = Lc (itA (Bk b)) (mnA (Bk b)) 0
    ·have c1' : Bk b = Lc (itA (Bk b)) (mnA (Bk b)) (0 : UInt64).toNat := c1
     rw [if_pos (by simpa using c1'), ba3 h hb c1]
     by_cases c2 : b.length < itA (Bk b) + 32
     ·rw [if_pos (by rw [Af]; simp; omega), if_pos c2]
     ·rw [if_neg (by rw [Af]; simp; omega), if_neg c2, Ag (by omega) (by omega)]; rfl
    ·have c1' : ¬ Bk b = Lc (itA (Bk b)) (mnA (Bk b)) (0 : UInt64).toNat := c1
     rw [if_neg (by simpa using c1'), Aa, Aks _ 2147483648 (by omega) (by omega) (by decide), Aa, hb]
     simp only [Bool.false_eq_true, if_false]
     rw [eI, eM]
     by_cases c2 : Bk b = Lc (itA (Bk b)) (mnA (Bk b)) 2147483648
     ·have c2' : Bk b = Lc (itA (Bk b)) (mnA (Bk b)) (2147483648 : UInt64).toNat := c2
      rw [if_neg (by simpa using c2'), Ag (by omega) (by omega)]
      by_cases c3 : b.length < itA (Bk b) + 64
      ·rw [if_pos (by rw [Af, Ac]; simp; omega), ba5 h hb c1 c2 c3]
      ·rw [if_neg (by rw [Af, Ac]; simp; omega), Ac, Bg (by omega) (by omega), Ag (by omega) (by omega), Xc (by omega) (by omega) (by omega), Aa, Av6 _ _ _ i3 i4 (by decide), Aa, Gw, Aa, ba6 h hb c1 c2 c3]
       rw [show ((b.length : Int) - (((itA (Bk b) : Nat) : Int) + 64)).toNat = b.length - (itA (Bk b) + 64) by omega, show ((b.length : Int) - (((itA (Bk b) : Nat) : Int) + 64) + 32).toNat = b.length - (itA (Bk b) + 64) + 32 by omega]
       have e7 : (2684354560 : UInt64).toNat = 2684354560 := rfl
       rw [e7]
       by_cases c4 : (b.take (b.length - (itA (Bk b) + 64) + 32)).drop (b.length - (itA (Bk b) + 64)) = Lc (itA (Bk b)) (mnA (Bk b)) 2684354560
       ·rw [if_neg (by simpa using c4), if_neg (fun e => e c4)]; rfl
       ·rw [if_pos (by simpa using c4), if_pos c4]
     ·have c2' : ¬ Bk b = Lc (itA (Bk b)) (mnA (Bk b)) (2147483648 : UInt64).toNat := c2
      rw [if_pos (by simpa using c2'), ba4 h hb c1 c2]
  ·rw [if_pos (by rw [Bool.not_eq_true', decide_eq_false_iff_not]; intro h; exact hp h.2), ba1 (fun h => hp h.2)]
 ·rw [if_pos (by rw [Ac, Bg (by omega) (by omega), Af]; simp; omega), ba1 (fun h => h32 h.1)]
theorem Bno {b : List UInt8} (h : 32 ≤ b.length) : (b.take (b.length - 32 + 8)).drop (b.length - 32) = (Bk b).take 8 := by
 rw [Bk, List.take_drop]
theorem Bjk (b : List UInt8) (hl : b.length < 4611686018427387904) : Tb b = some (Tv b) := by
 rw [Tb, Tq]
 by_cases h32 : 32 ≤ b.length
 ·obtain ⟨e1, e2⟩ := Bky h32 hl
  have hl3 := Bci h32
  rw [if_neg (by rw [Af, Ac]; simp; omega), e1, Ag (by omega) (by omega), Xc (by omega) (by omega) (by omega), Aa, show ((b.length - 32 : Nat) : Int).toNat = b.length - 32 from rfl, show (((b.length - 32 : Nat) : Int) + 8).toNat = b.length - 32 + 8 by omega, Bno h32]
  by_cases hp : (Bk b).take 8 = APE
  ·have h := And.intro h32 hp
   rw [if_neg (by simpa [APE] using hp), Ua, Md, e1, e2, Aa, Bdj _ (by omega) (by omega), Aa]
   cases hb : Ac9 (Bk b) with
   | true => rw [ba2 h hb]; rfl
   | false =>
    obtain ⟨i1, i2, i3, i4⟩ := Aq5 (Bk b) (by omega) hb
    have eI : Dy (part (Bk b) 12 4) - 32 = itA (Bk b) := rfl
    have eM : Dy (part (Bk b) 16 4) = mnA (Bk b) := rfl
    simp only [Bool.false_eq_true, if_false, Bool.not_true]
    rw [eI] at i3
    rw [eM] at i4
    rw [eI, eM, Dk, if_pos rfl, Aqp _ _ _ i3 i4 (by decide), Aa, Aa]
    have e7 : (2147483648 : UInt64).toNat = 2147483648 := rfl
    have e8 : (2684354560 : UInt64).toNat = 2684354560 := rfl
    rw [e7]
    by_cases c2 : Bk b = Lc (itA (Bk b)) (mnA (Bk b)) 2147483648
    ·have c1 : Bk b ≠ Lc (itA (Bk b)) (mnA (Bk b)) 0 := fun e => Bqg (itA (Bk b)) (mnA (Bk b)) (e.symm.trans c2)
     rw [if_neg (by simpa using c2), Mm, Mf, if_pos (by simpa using c2), Lw, Uu, Ag (a := 32) (by omega) (by omega), Ag (by omega) (by omega)]
     by_cases c3 : b.length < itA (Bk b) + 64
     ·rw [if_pos (by rw [Af, Ac]; simp; omega), ba5 h hb c1 c2 c3]
     ·rw [if_neg (by rw [Af, Ac]; simp; omega), if_pos (by simpa using c2), Ac, Bg (by omega) (by omega), Ag (by omega) (by omega), Xc (by omega) (by omega) (by omega), Aa, Lz, Aqp _ _ _ i3 i4 (by decide), Aa, Aa, ba6 h hb c1 c2 c3, e8]
      rw [show ((b.length : Int) - (32 + ((itA (Bk b) : Nat) : Int) + 32)).toNat = b.length - (itA (Bk b) + 64) by omega, show ((b.length : Int) - (32 + ((itA (Bk b) : Nat) : Int) + 32) + 32).toNat = b.length - (itA (Bk b) + 64) + 32 by omega]
      by_cases c4 : (b.take (b.length - (itA (Bk b) + 64) + 32)).drop (b.length - (itA (Bk b) + 64)) = Lc (itA (Bk b)) (mnA (Bk b)) 2684354560
      ·rw [if_neg (by simpa using c4), if_neg (fun e => e c4), show (32 + ((itA (Bk b) : Nat) : Int) + 32) = ((itA (Bk b) + 64 : Nat) : Int) by omega]
      ·rw [if_pos (by simpa using c4), if_pos c4]
    ·rw [if_pos (by simpa using c2), Dk, if_neg (by simp), Aqp _ _ _ i3 i4 (by decide), Aa, Aa]
     have e9 : (0 : UInt64).toNat = 0 := rfl
     rw [e9]
     by_cases c1 : Bk b = Lc (itA (Bk b)) (mnA (Bk b)) 0
     ·rw [if_neg (by simpa using c1), Mm, Mf, if_neg (by simpa using c2), Lw, Uu, Ag (by omega) (by omega), ba3 h hb c1, if_neg (c := (Bk b == Lc (itA (Bk b)) (mnA (Bk b)) 2147483648) = true) (by simpa using c2)]
      by_cases c3 : b.length < itA (Bk b) + 32
      ·rw [if_pos (by rw [Af, Ac]; simp; omega), if_pos c3]
      ·rw [if_neg (by rw [Af, Ac]; simp; omega), if_neg c3, show (32 + ((itA (Bk b) : Nat) : Int)) = ((itA (Bk b) + 32 : Nat) : Int) by omega]
     ·rw [if_pos (by simpa using c1), ba4 h hb c1 c2]
  ·rw [if_pos (by simpa [APE] using hp), ba1 (fun h => hp h.2)]
 ·rw [if_pos (by rw [Af, Ac]; simp; omega), ba1 (fun h => h32 h.1)]
def Bhe : Nat → List UInt8 → Nat → Int × Int
 | 0, _, _ => (0, 38)
 | j + 1, b, a => if b = [] then ((a : Int), 0) else if (Tv b).2 ≠ 0 then (0, 38) else Bhe j (b.take (b.length - (Tv b).1.toNat)) (a + 1)
theorem Bak : ∀ (j q a : Nat) (b : List UInt8), b.length < j → j ≤ q → b.length ≤ 4000 → a + b.length ≤ 4000 → Qy q (a : Int) b = some (Bhe j b a)
 | 0, _, _, _, h, _, _, _ => by omega
 | j + 1, q + 1, a, b, h, hq, h4, ha => by
  rw [Qy, Adv, Bhe]
  by_cases hb : b = []
  ·subst hb; rw [if_neg (by decide), if_pos rfl]; rfl
  ·have hpos : 0 < b.length := List.length_pos_iff.2 hb
   rw [if_pos (by rw [Bb, Ac]; simp; omega), if_neg hb, Bg8 b (by omega), Aa]
   have hbad := Bi6 (b := b)
   have hok := fun n => Bbb (b := b) (n := n)
   generalize Tv b = v at *
   obtain ⟨n, e⟩ := v
   simp only at hbad ⊢
   rw [Abv, Abf]
   by_cases he : e ≠ 0
   ·rw [if_pos he, hbad he, if_pos (by decide)]
   ·obtain ⟨k1, k2⟩ := hok n (by rw [show e = 0 by simpa using he])
    rw [if_neg he, if_neg (by rw [Cg]; simp; omega), Ac, Bg (by omega) (by omega), Jm (by omega) (by omega), Aa, Abu, Ain, Ag (by omega) (by omega)]
    rw [show ((b.length : Int) - n).toNat = b.length - n.toNat by omega]
    have ih := Bak j q (a + 1) (b.take (b.length - n.toNat)) (by rw [List.length_take]; omega) (by omega) (by rw [List.length_take]; omega) (by rw [List.length_take]; omega)
    rw [← ih]; rfl
theorem Bfp : ∀ (j q a : Nat) (b : List UInt8), b.length < j → j ≤ q → b.length ≤ 4000 → a + b.length ≤ 4000 → Gh q b (a : Int) = some (Bhe j b a)
 | 0, _, _, _, h, _, _, _ => by omega
 | j + 1, q + 1, a, b, h, hq, h4, ha => by
  rw [Gh, Ps, Bhe]
  by_cases hb : b = []
  ·subst hb; rw [if_neg (by decide), if_pos rfl]; rfl
  ·have hpos : 0 < b.length := List.length_pos_iff.2 hb
   rw [if_pos (by rw [Bb, Ac]; simp; omega), if_neg hb, Bjk b (by omega), Aa]
   have hok := fun n => Bbb (b := b) (n := n)
   generalize Tv b = v at *
   obtain ⟨n, e⟩ := v
   simp only
   by_cases he : e ≠ 0
   ·rw [if_pos he, if_pos (by rw [Am]; simpa using he)]
   ·obtain ⟨k1, k2⟩ := hok n (by rw [show e = 0 by simpa using he])
    rw [if_neg he, if_neg (by rw [Am]; simpa using he), Ac, Bg (by omega) (by omega), Jm (by omega) (by omega), Aa, Ag (by omega) (by omega)]
    rw [show ((b.length : Int) - n).toNat = b.length - n.toNat by omega]
    have ih := Bfp j q (a + 1) (b.take (b.length - n.toNat)) (by rw [List.length_take]; omega) (by omega) (by rw [List.length_take]; omega) (by rw [List.length_take]; omega)
    rw [← ih]; rfl
def Ajz (b : List UInt8) : Int × Int := if 4000 < b.length then (0, 38) else Bhe (b.length + 1) b 0
theorem Bbe (b : List UInt8) (hl : b.length < 4611686018427387904) : Yw b = some (Ajz b) := by
 rw [Yw, Ad8, Ajz]
 by_cases h : 4000 < b.length
 ·rw [if_pos (by rw [Bb, Ac]; simp; omega), if_pos h]
 ·rw [if_neg (by rw [Bb, Ac]; simp; omega), if_neg h]
  exact Bak _ Ba 0 b (by omega) (by have := Au; omega) (by omega) (by omega)
theorem Bdy (b : List UInt8) (hl : b.length < 4611686018427387904) : Nr b = some (Ajz b) := by
 rw [Nr, Qo, Ajz]
 by_cases h : 4000 < b.length
 ·rw [if_pos (by rw [Bb, Ac]; simp; omega), if_pos h]
 ·rw [if_neg (by rw [Bb, Ac]; simp; omega), if_neg h]
  exact Bfp _ Ba 0 b (by omega) (by have := Au; omega) (by omega) (by omega)
end Go.Pl
set_option linter.unusedVariables false
set_option linter.unusedSimpArgs false
namespace Go.Pl
open Go Go.Lv
theorem Bj7 {a b : Nat} (h : a < 9223372036854775808) : Cu (a : Int) (b : Int) = ((a / b : Nat) : Int) := by
 have : a / b ≤ a := Nat.div_le_self _ _
 rw [Adu, Int.tdiv_eq_ediv_of_nonneg (by omega), ← Int.natCast_ediv]
 generalize a / b = k at *
 exact Bt (by omega) (by omega)
theorem Bhv {bits : Int} (h : Du bits) (x : Int) : (Anv bits x).length = wB bits := by
 obtain rfl | rfl | rfl := h <;> rfl
theorem Asb {bits : Int} (h : Du bits) : ∀ l : List Int32, (bytesB bits l).length = l.length * wB bits
 | [] => by simp [bytesB]
 | x :: l => by
  have h1 := Asb h l
  have h2 := Bhv h x.toInt
  simp only [bytesB, List.flatMap_cons, List.length_append, List.length_cons, Nat.succ_mul] at *
  omega
def segF (b : List UInt8) (A : Nat) (l : List Int) (k : Nat) : List UInt8 := (b.take ((A : Int) + (l.take (k + 1)).sum).toNat).drop ((A : Int) + (l.take k).sum).toNat
structure Gts (b p : List UInt8) (f c w r n A : Nat) (l : List Int) (k m : Nat) (x : List Int32) (s : List UInt8) (e : Int) : Prop where
 mom : getI (framesL (longN r) n) (k : Int) = some (m : Int)
 pos : 1 ≤ m ∧ m * c ≤ 4000
 got : cadenzaref40_Got b p (f : Int) (c : Int) (w : Int) (r : Int) (n : Int) (A : Int) l (k : Int) = some (s, e)
 none' : e ≠ 0 → s = [] ∧ x = []
 some' : e = 0 → s = bytesB (w : Int) x ∧ x.length = m * c ∧ cadenzaref18_Check (w : Int) x = some 0 ∧ width_Bytes (w : Int) x = some (s, 0) ∧ (A : Int) + (l.take (k + 1)).sum ≤ b.length
 way : ((b.length : Int) < (A : Int) + (l.take (k + 1)).sum ∧ e = 24) ∨ ((A : Int) + (l.take (k + 1)).sum ≤ b.length ∧ deframe_Decode (c : Int) (w : Int) (tapsOf p) (m : Int) (segF b A l k) = some (x, e) ∧ cadenzaref21_Decode (c : Int) (w : Int) (tapsOf p) (m : Int) (segF b A l k) = some (x, e))
theorem Arl {b p : List UInt8} {f c w r n A : Nat} {l : List Int} (o : Opn b p f c w r n A l) (k : Nat) (hk : k < l.length) : ∃ m x s e, Gts b p f c w r n A l k m x s e := by
 obtain ⟨hc, hw, hr, hn, _⟩ := Af4 o.shape
 have hfit : n ≤ 4000 / c := by have := o.fit; simp only [fitB, decide_eq_true_eq] at this; exact this.1
 have hn4 : n ≤ 4000 := by have := Nat.div_le_self 4000 c; omega
 have hA := o.at'
 have hfile := o.file
 have hlen := o.len
 have b1 := Ms o.five k
 have b2 := Ms o.five (k + 1)
 have e := Acd hk
 have h5 := o.five l[k] (List.getElem_mem _)
 have hsum := o.sum
 have hs1 := o.some1
 have hkf : k < (framesL (longN r) n).length := by omega
 obtain ⟨m, hm, m1, m2⟩ := Bfh (Ab0 r) hn (List.getElem_mem hkf)
 have hmom : getI (framesL (longN r) n) (k : Int) = some (m : Int) := by rw [Ds hkf, hm]
 have hpos : 1 ≤ m ∧ m * c ≤ 4000 := by
  refine ⟨m1, ?_⟩
  have := Nat.mul_le_mul_right c (Nat.le_trans m2 hfit)
  have := Nat.div_mul_le_self 4000 c
  omega
 have hR : cadenzaref40_Got b p (f : Int) (c : Int) (w : Int) (r : Int) (n : Int) (A : Int) l (k : Int) = cadenzaref40_Got b p (f : Int) (c : Int) (w : Int) (r : Int) (n : Int) (A : Int) l (k : Int) := rfl
 conv at hR => rhs; rw [cadenzaref40_Got, Nx, Aym hs1.2 o.five o.sum _ _ _ _ _ (A : Int) (by omega) (by omega) k (by omega), Aa, Ds hk, Aa, Bg (by rw [Ac]; omega) (by rw [Ac]; omega)]
 by_cases hto : (b.length : Int) < (A : Int) + (l.take (k + 1)).sum
 ·rw [if_pos (by rw [Af, Ac, decide_eq_true_eq]; omega)] at hR
  exact ⟨m, [], [], 24, hmom, hpos, hR, fun _ => ⟨rfl, rfl⟩, fun h => by simp at h, .inl ⟨hto, rfl⟩⟩
 ·rw [if_neg (by rw [Af, Ac, decide_eq_true_eq]; omega), Bk5 p o.pass, Apm hr.2 hn hn4] at hR
  simp only [Aa] at hR
  rw [Ag (a := (A : Int) + (l.take k).sum) (b := l[k]) (by omega) (by omega), Int.add_assoc, ← e, hmom] at hR
  simp only [Aa] at hR
  rw [Xc (by omega) (by omega) (by omega), Aa] at hR
  obtain ⟨x, er, g1, g2, g3, g4⟩ := Bay (ch := c) (n := m) (t := tapsOf p) (segF b A l k) hw (Bd7 p) hc.1 hc.2 m1 (by omega)
  rw [show (b.take ((A : Int) + (l.take (k + 1)).sum).toNat).drop ((A : Int) + (l.take k).sum).toNat = segF b A l k from rfl, g2, Aa] at hR
  simp only at hR
  rw [Wd, Aen] at hR
  by_cases her : er = 0
  ·obtain ⟨g5, g6, g7⟩ := g3 her
   rw [if_neg (by rw [Am]; simpa using her), Bi2 hw g6 g5, Aa] at hR
   subst her
   exact ⟨m, x, _, 0, hmom, hpos, hR, fun h => absurd rfl h, fun _ => ⟨rfl, g7, g5, Bdt hw g6 g5, by omega⟩, .inr ⟨by omega, g1, g2⟩⟩
  ·rw [if_pos (by rw [Am]; simpa using her)] at hR
   exact ⟨m, x, _, er, hmom, hpos, hR, fun h => ⟨rfl, g4 h⟩, fun h => absurd h her, .inr ⟨by omega, g1, g2⟩⟩
theorem Gts.len {b p : List UInt8} {f c w r n A : Nat} {l : List Int} {k m : Nat} {x : List Int32} {s : List UInt8} {e : Int} (hw : Du (w : Int)) (g : Gts b p f c w r n A l k m x s e) : s.length ≤ 12000 ∧ x.length ≤ 4000 ∧ (e = 0 → s.length = m * c * wB (w : Int)) := by
 by_cases he : e = 0
 ·obtain ⟨h1, h2, _⟩ := g.some' he
  have h3 := Aj8 (w : Int) x
  have h4 := Asb hw x
  have h5 := g.pos
  rw [← h1] at h3 h4
  refine ⟨by omega, by omega, fun _ => by rw [h4, h2]⟩
 ·obtain ⟨h1, h2⟩ := g.none' he
  exact ⟨by simp [h1], by simp [h2], fun h => absurd h he⟩
def Vl (G : Nat → List UInt8 × Int) (be : Int) : Nat → Nat → List UInt8 → List UInt8 × Int
 | 0, _, acc => if be ≠ 0 then ([], 38) else (acc, 0)
 | j + 1, k, acc => if (G k).2 ≠ 0 then ([], (G k).2) else Vl G be j (k + 1) (acc ++ (G k).1)
def Asu (b p : List UInt8) (f c w r n A : Nat) (l : List Int) (k : Nat) : List UInt8 × Int := (cadenzaref40_Got b p (f : Int) (c : Int) (w : Int) (r : Int) (n : Int) (A : Int) l (k : Int)).getD ([], 0)
theorem Gts.eq {b p : List UInt8} {f c w r n A : Nat} {l : List Int} {k m : Nat} {x : List Int32} {s : List UInt8} {e : Int} (g : Gts b p f c w r n A l k m x s e) : Asu b p f c w r n A l k = (s, e) := by rw [Asu, g.got]; rfl
def Asw (b : List UInt8) (A : Nat) (l : List Int) : Int := (Ajz (b.drop ((A : Int) + l.sum).toNat)).2
section
variable {b p : List UInt8} {f c w r n A : Nat} {l : List Int} (o : Opn b p f c w r n A l)
include o
theorem An7 : ∀ (j k q : Nat) (acc : List UInt8), k + j = l.length → j < q → (k = l.length → (A : Int) + l.sum ≤ b.length) → acc.length ≤ 12000 * k →
  Fv b p (f : Int) (c : Int) (w : Int) (r : Int) (n : Int) (A : Int) l q (k : Int) acc = some (Vl (Asu b p f c w r n A l) (Asw b A l) j k acc)
 | 0, k, q + 1, acc, hk, _, hfit, _ => by
  have hA := o.at'
  have hfile := o.file
  have hs1 := o.some1
  have hsum := o.sum
  have b1 := Ms o.five l.length
  have hf := hfit (by omega)
  have e1 : (l.take l.length).sum = l.sum := by rw [List.take_length]
  rw [Fv, Mp, if_neg (by rw [Af, Ac]; simp; omega), Ug, Acj, Ac, Aym hs1.2 o.five o.sum _ _ _ _ _ (A : Int) (by omega) (by omega) l.length (Nat.le_refl _), Aa, e1, Lk (by omega) (by omega), Aa, Bdy _ (by rw [List.length_drop]; omega), Aa, Vl, Asw]
  generalize Ajz (b.drop ((A : Int) + l.sum).toNat) = v
  obtain ⟨v1, v2⟩ := v
  simp only
  by_cases hv : v2 ≠ 0
  ·rw [if_pos hv, if_pos (by rw [Am]; simpa using hv)]
  ·rw [if_neg hv, if_neg (by rw [Am]; simpa using hv)]
 | j + 1, k, q + 1, acc, hk, hq, hfit, hacc => by
  obtain ⟨hc, hw, hr, hn, _⟩ := Af4 o.shape
  have hs1 := o.some1
  obtain ⟨m, x, s, e, g⟩ := Arl o k (by omega)
  have hl := g.len hw
  rw [Fv, Mp, if_pos (by rw [Af, Ac]; simp; omega), g.got, Aa, Vl, g.eq]
  simp only
  by_cases he : e ≠ 0
  ·rw [if_pos he, if_pos (by rw [Am]; simpa using he)]
  ·have he0 : e = 0 := by simpa using he
   have hfit2 := (g.some' he0).2.2.2.2
   rw [if_neg he, if_neg (by rw [Am]; simpa using he), Gc (by omega), Aa, Ag (by omega) (by omega)]
   exact An7 j (k + 1) q (acc ++ s) (by omega) (by omega) (fun h => by rw [h, List.take_length] at hfit2; exact hfit2) (by rw [List.length_append]; omega)
theorem Bbr (k : Nat) (hk : k < l.length) : Tf b p (f : Int) (c : Int) (w : Int) (r : Int) (n : Int) (A : Int) l (k : Int) = some (Vl (Asu b p f c w r n A l) (Asw b A l) (l.length - k) k []) := by
 have hs1 := o.some1
 exact An7 o (l.length - k) k Ba [] (by omega) (by have := Au; omega) (by omega) (by simp)
theorem Bhc (k m : Nat) (x : List Int32) (s : List UInt8) (e : Int) (hk : k < l.length) (g : Gts b p f c w r n A l k m x s e) (bk : Int → LB → Ah) (M : Int) (acc : List UInt8) (hacc : acc.length ≤ 12000 * k) :
  Wv bk (A : Int) b (framesL (longN r) n) M (c : Int) (w : Int) (tapsOf p) (f : Int) (r : Int) (n : Int) l (Apz l (l.length + 1)) (k : Int) ((l.take k).sum) ((l.take (k + 1)).sum) acc =
   if e ≠ 0 then some ([], e) else bk (((k + 1 : Nat)) : Int) (acc ++ s) := by
 obtain ⟨hc, hw, hr, hn, _⟩ := Af4 o.shape
 have hA := o.at'
 have hfile := o.file
 have hs1 := o.some1
 have hsum := o.sum
 have b1 := Ms o.five k
 have b2 := Ms o.five (k + 1)
 have e2 := Acd hk
 have h5 := o.five l[k] (List.getElem_mem _)
 have hl := g.len hw
 rw [Wv, Ad9, Ag (a := (A : Int)) (b := (l.take (k + 1)).sum) (by omega) (by omega), Ag (by omega) (by omega), Ac]
 have hend : ∀ (e1 : Int) (s1 : List UInt8), s1.length ≤ 12000 → Qw bk b (framesL (longN r) n) (A : Int) M (f : Int) (c : Int) (w : Int) (r : Int) (n : Int) (tapsOf p) l (Apz l (l.length + 1)) (k : Int) acc e1 s1 = if e1 ≠ 0 then some ([], e1) else bk (((k + 1 : Nat)) : Int) (acc ++ s1) := by
  intro e1 s1 h1
  rw [Qw, Ad0]
  by_cases h : e1 ≠ 0
  ·rw [if_pos h, if_pos (by rw [Am]; simpa using h)]
  ·rw [if_neg h, if_neg (by rw [Am]; simpa using h), Gc (by omega), Aa, Ad3, Ak7, Ag (by omega) (by omega)]; rfl
 rcases g.way with ⟨h1, h2⟩ | ⟨h1, h2, _⟩
 ·rw [if_pos (by rw [Bb, decide_eq_true_eq]; omega), hend 24 [] (by simp), h2]; rfl
 ·rw [if_neg (by rw [Bb, decide_eq_true_eq]; omega), g.mom]
  simp only [Aa]
  rw [Xc (by omega) (by omega) (by omega), Aa, show (b.take ((A : Int) + (l.take (k + 1)).sum).toNat).drop ((A : Int) + (l.take k).sum).toNat = segF b A l k from rfl, h2, Aa]
  simp only
  rw [Adr, Ado]
  by_cases he : e ≠ 0
  ·rw [if_pos (by rw [Am]; simpa using he), hend e [] (by simp), if_pos he, if_pos he]
  ·have he0 : e = 0 := by simpa using he
   rw [if_neg (by rw [Am]; simpa using he), (g.some' he0).2.2.2.1, Aa]
   simp only
   rw [hend 0 s hl.1, if_neg (by simp), if_neg he]
theorem Ayk : ∀ (j k q : Nat) (acc : List UInt8), k + j = l.length → j < q → (k = l.length → (A : Int) + l.sum ≤ b.length) → acc.length ≤ 12000 * k →
  Lm b (framesL (longN r) n) (A : Int) l.sum (f : Int) (c : Int) (w : Int) (r : Int) (n : Int) (tapsOf p) l (Apz l (l.length + 1)) q (k : Int) acc = some (Vl (Asu b p f c w r n A l) (Asw b A l) j k acc)
 | 0, k, q + 1, acc, hk, _, hfit, _ => by
  have hA := o.at'
  have hfile := o.file
  have hs1 := o.some1
  have hsum := o.sum
  have b1 := Ms o.five l.length
  have hf := hfit (by omega)
  rw [List.take_length] at b1
  rw [Lm, Wu, if_neg (by rw [Af, Ac, ← o.len]; simp; omega), Ad5, Ak9, Ag (by omega) (by omega), Lk (by omega) (by omega), Aa, Bbe _ (by rw [List.length_drop]; omega), Aa, Vl, Asw]
  generalize Ajz (b.drop ((A : Int) + l.sum).toNat) = v
  obtain ⟨v1, v2⟩ := v
  simp only
  by_cases hv : v2 ≠ 0
  ·rw [if_pos hv, if_pos (by rw [Am]; simpa using hv)]
  ·rw [if_neg hv, if_neg (by rw [Am]; simpa using hv)]
 | j + 1, k, q + 1, acc, hk, hq, hfit, hacc => by
  have hs1 := o.some1
  obtain ⟨m, x, s, e, g⟩ := Arl o k (by omega)
  obtain ⟨hc, hw, hr, hn, _⟩ := Af4 o.shape
  have hl := g.len hw
  have e1 : Ae (k : Int) 1 = ((k + 1 : Nat) : Int) := by rw [Ag (by omega) (by omega)]; omega
  rw [Lm, Wu, if_pos (by rw [Af, Ac, ← o.len]; simp; omega), e1, Auc l (by omega), Auc l (by omega)]
  simp only [Aa]
  rw [Bhc o k m x s e (by omega) g _ _ acc hacc, Vl, g.eq]
  simp only
  by_cases he : e ≠ 0
  ·rw [if_pos he, if_pos he]
  ·have he0 : e = 0 := by simpa using he
   have hfit2 := (g.some' he0).2.2.2.2
   rw [if_neg he, if_neg he]
   exact Ayk j (k + 1) q (acc ++ s) (by omega) (by omega) (fun h => by rw [h, List.take_length] at hfit2; exact hfit2) (by rw [List.length_append]; omega)
theorem Axj (k : Int) : Pf b p k = some (if k < 0 ∨ (l.length : Int) ≤ k then ([], 2) else Vl (Asu b p f c w r n A l) (Asw b A l) (l.length - k.toNat) k.toNat []) := by
 have hs1 := o.some1
 have e1 : getI (Apz l (l.length + 1)) (Ac (framesL (longN r) n)) = some l.sum := by rw [Ac, ← o.len, Auc l (by omega), List.take_length]
 rw [Pf, Aai, o.prog, Aa]
 simp only
 rw [if_neg (by rw [Am]; simp), Arr o.shape o.fit, Aa]
 simp only
 rw [if_neg (by rw [Am]; simp), Bm4 hs1.2 o.five o.sum hs1.1, Aa]
 simp only
 rw [if_neg (by rw [Am]; simp), Bi7 p o.pass, Aa]
 simp only
 rw [if_neg (by rw [Am]; simp), e1, Aa, Aa, Ad6, Ady, if_neg (by rw [Am]; simp)]
 by_cases hk : k < 0 ∨ (l.length : Int) ≤ k
 ·rw [if_pos hk, if_pos (by rw [Ac, ← o.len]; simp [Af, Cz]; omega)]
 ·rw [if_neg hk, if_neg (by rw [Ac, ← o.len]; simp [Af, Cz]; omega)]
  obtain ⟨k, rfl⟩ := Int.eq_ofNat_of_zero_le (show 0 ≤ k by omega)
  exact Ayk o (l.length - k) k Ba [] (by omega) (by have := Au; omega) (by omega) (by simp)
theorem Aw1 (k : Int) : Gj b p k = some (if k < 0 ∨ (l.length : Int) ≤ k then ([], 2) else Vl (Asu b p f c w r n A l) (Asw b A l) (l.length - k.toNat) k.toNat []) := by
 rw [Gj, Apr o.pass o.ref, Aa]
 simp only
 rw [if_neg (by rw [Am]; simp)]
 by_cases hk : k < 0 ∨ (l.length : Int) ≤ k
 ·rw [if_pos hk, if_pos (by simp [Af, Cz, Ac]; omega)]
 ·rw [if_neg hk, if_neg (by simp [Af, Cz, Ac]; omega)]
  obtain ⟨k, rfl⟩ := Int.eq_ofNat_of_zero_le (show 0 ≤ k by omega)
  rw [Bbr o k (by omega), Aa]; rfl
end
end Go.Pl
set_option linter.unusedVariables false
set_option linter.unusedSimpArgs false
namespace Go.Pl
open Go Go.Lv
theorem Bbw {b p : List UInt8} {e : Int} (he : e ≠ 0) (h : seekto_Open b p = some (Anw e)) (k : Int) : Pf b p k = some ([], e) := by
 rw [Pf, Aai, h, Aa, Anw]
 simp only
 rw [if_pos (by rw [Am]; simpa using he), Adz, Adq, if_pos (by rw [Am]; simpa using he)]
theorem Ap7 {b p : List UInt8} {e : Int} (he : e ≠ 0) (h : Ea b p = some (Anw e)) (k : Int) : Gj b p k = some ([], e) := by
 rw [Gj, h, Aa, Anw]
 simp only
 rw [if_pos (by rw [Am]; simpa using he)]
theorem Bjx {b p : List UInt8} {e : Int} (he : e ≠ 0) (h : seekto_Open b p = some (Anw e)) (k : Int) : Abt b p k = some ([], e) := by
 rw [Abt, h, Aa, Anw]
 simp only
 rw [if_pos (by rw [Am]; simpa using he)]
theorem Awa {b p : List UInt8} {e : Int} (he : e ≠ 0) (h : Ea b p = some (Anw e)) (k : Int) : Is b p k = some ([], e) := by
 rw [Is, Qm, h, Aa, Anw]
 simp only
 rw [if_pos (by rw [Am]; simpa using he)]
theorem Bjg (b p : List UInt8) (hb : b.length ≤ 100100) (hp : p.length ≤ 1000) (k : Int) : ∃ y, Pf b p k = some y ∧ Gj b p k = some y := by
 by_cases h64 : 64 < p.length
 ·obtain ⟨h1, h2⟩ := Ax1 b p h64 hp
  exact ⟨_, Bbw (by omega) h1 k, Ap7 (by omega) h2 k⟩
 ·rcases Bgg b p hb (by omega) with ⟨e, he, h1, h2⟩ | ⟨f, c, w, r, n, A, l, o⟩
  ·exact ⟨_, Bbw he h1 k, Ap7 he (Apr (by omega) h2) k⟩
  ·exact ⟨_, Axj o k, Aw1 o k⟩
theorem Bbk (G : Nat → List UInt8 × Int) (be : Int) : ∀ (j k : Nat) (acc : List UInt8), (Vl G be j k acc).2 = 0 → acc.length ≤ (Vl G be j k acc).1.length
 | 0, k, acc, h => by
  rw [Vl] at h ⊢
  by_cases hb : be ≠ 0
  ·rw [if_pos hb] at h; simp at h
  ·rw [if_neg hb]; exact Nat.le_refl _
 | j + 1, k, acc, h => by
  rw [Vl] at h ⊢
  by_cases hb : (G k).2 ≠ 0
  ·rw [if_pos hb] at h; exact absurd h hb
  ·rw [if_neg hb] at h ⊢
   have := Bbk G be j (k + 1) _ h
   rw [List.length_append] at this; omega
theorem Bbd (G : Nat → List UInt8 × Int) (be : Int) (j k : Nat) (h : (Vl G be (j + 1) k []).2 = 0) : (G k).2 = 0 ∧ (G k).1.length ≤ (Vl G be (j + 1) k []).1.length := by
 rw [Vl] at h ⊢
 by_cases hb : (G k).2 ≠ 0
 ·rw [if_pos hb] at h; exact absurd h hb
 ·rw [if_neg hb] at h ⊢
  exact ⟨by simpa using hb, by simpa using Bbk G be j (k + 1) _ h⟩
theorem Aol {g n a : Nat} (ha : a ≤ (n - 1) / g) : getI (framesL g n) (a : Int) = some (if a < (n - 1) / g then (g : Int) else ((n - (n - 1) / g * g : Nat) : Int)) := by
 rw [Ds (by rw [Adg]; omega)]
 by_cases h : a < (n - 1) / g
 ·rw [if_pos h]; simp [framesL, h]
 ·obtain rfl : a = (n - 1) / g := by omega
  rw [if_neg h]; simp [framesL]
theorem Alu {g n t : Nat} (hg : 1 ≤ g) (ht : t < n) : t / g ≤ (n - 1) / g ∧ ∀ m : Nat, getI (framesL g n) ((t / g : Nat) : Int) = some (m : Int) → t % g < m := by
 have h1 : t / g ≤ (n - 1) / g := Nat.div_le_div_right (by omega)
 refine ⟨h1, fun m hm => ?_⟩
 have hmod := Nat.mod_lt t (show 0 < g by omega)
 have hdm := Nat.div_add_mod t g
 rw [Aol h1] at hm
 by_cases h : t / g < (n - 1) / g
 ·rw [if_pos h] at hm
  have := Option.some.inj hm
  omega
 ·rw [if_neg h] at hm
  have h2 : t / g = (n - 1) / g := by omega
  have := Option.some.inj hm
  rw [Nat.mul_comm, h2] at hdm
  omega
theorem Bba (b p : List UInt8) (f c w r n A : Int) (l : List Int) {g N t : Nat} (hg : 1 ≤ g) (ht : t < N) (hN : N ≤ 4000) : ∀ (d a q : Nat), a + d = t / g → d < q → Hk b p f c w r n A (framesL g N) l q ((t - a * g : Nat) : Int) (a : Int) = Ph b p ((t % g : Nat) : Int) ((t / g : Nat) : Int) f c w r n A l
 | 0, a, q + 1, ha, _ => by
  obtain rfl : a = t / g := by omega
  obtain ⟨h1, h2⟩ := Alu hg ht
  have hdm := Nat.div_add_mod t g
  have e : t - t / g * g = t % g := by rw [Nat.mul_comm]; omega
  have hget := Aol h1
  have hn : ¬ (Pr ((t % g : Nat) : Int) (if t / g < (N - 1) / g then (g : Int) else ((N - (N - 1) / g * g : Nat) : Int)) = true) := by
   rw [Cz, decide_eq_true_eq]
   by_cases h : t / g < (N - 1) / g
   ·have := h2 g (by rw [hget, if_pos h])
    rw [if_pos h]; omega
   ·have := h2 (N - (N - 1) / g * g) (by rw [hget, if_neg h])
    rw [if_neg h]; omega
  rw [Hk, Qq, hget, Aa, Aa, e, if_neg hn]
 | d + 1, a, q + 1, ha, hq => by
  obtain ⟨h1, h2⟩ := Alu hg ht
  have hlt : a < (N - 1) / g := by omega
  have hge : (a + 1) * g ≤ t := by
   have := Nat.mul_le_mul_right g (show a + 1 ≤ t / g by omega)
   have := Nat.div_mul_le_self t g
   omega
  have e1 : (a + 1) * g = a * g + g := Nat.succ_mul a g
  have hgN : g ≤ 4000 := by omega
  have ha4 : a ≤ 4000 := by have := Nat.div_le_self t g; omega
  rw [Hk, Qq, Aol (by omega), if_pos hlt, Aa, Aa, if_pos (by rw [Cz, decide_eq_true_eq]; omega), Aa, Aa, Bg (by omega) (by omega), Ag (by omega) (by omega)]
  have ih := Bba b p f c w r n A l hg ht hN d (a + 1) q (by omega) (by omega)
  rw [show ((t - (a + 1) * g : Nat) : Int) = ((t - a * g : Nat) : Int) - (g : Int) by omega] at ih
  exact ih
theorem Bqt {c : Nat} {w : Nat} (hc : c ≤ 6) (hw : Du (w : Int)) : Cu (Bj (c : Int) (w : Int)) 8 = ((c * wB (w : Int) : Nat) : Int) := by
 have h : w = 8 ∨ w = 16 ∨ w = 24 := by unfold Du at hw; omega
 have : c = 0 ∨ c = 1 ∨ c = 2 ∨ c = 3 ∨ c = 4 ∨ c = 5 ∨ c = 6 := by omega
 rcases h with rfl | rfl | rfl <;> rcases this with rfl | rfl | rfl | rfl | rfl | rfl | rfl <;> rfl
theorem Bqf {w : Nat} (hw : Du (w : Int)) : 8 * wB (w : Int) = w ∧ w ≤ 24 := by
 have h : w = 8 ∨ w = 16 ∨ w = 24 := by unfold Du at hw; omega
 rcases h with rfl | rfl | rfl <;> exact ⟨rfl, by omega⟩
theorem Bqq {t c w : Nat} (ht : t ≤ 4000) (hc : c ≤ 6) (hw : Du (w : Int)) : Cu (Bj (Bj (t : Int) (c : Int)) (w : Int)) 8 = ((t * (c * wB (w : Int)) : Nat) : Int) := by
 obtain ⟨h1, h2⟩ := Bqf hw
 have e1 : (t : Int) * (c : Int) = ((t * c : Nat) : Int) := by simp
 have b1 : t * c ≤ 4000 * 6 := Nat.mul_le_mul ht hc
 have b2 : t * c * w ≤ 24000 * 24 := Nat.mul_le_mul b1 h2
 rw [Gz (a := (t : Int)) (by rw [e1]; omega) (by rw [e1]; omega), e1, Gz (by rw [← Int.natCast_mul]; omega) (by rw [← Int.natCast_mul]; omega), ← Int.natCast_mul, show (8 : Int) = ((8 : Nat) : Int) from rfl, Bj7 (by omega)]
 congr 1
 generalize wB (w : Int) = W at *
 subst h1
 rw [Nat.mul_left_comm, Nat.mul_div_cancel_left _ (by omega), Nat.mul_assoc]
section
variable {b p : List UInt8} {f c w r n A : Nat} {l : List Int} (o : Opn b p f c w r n A l)
include o
def atS (b p : List UInt8) (f c w r n A : Nat) (l : List Int) (t : Nat) : List UInt8 × Int :=
 let y := Vl (Asu b p f c w r n A l) (Asw b A l) (l.length - t / longN r) (t / longN r) []
 if y.2 ≠ 0 then ([], y.2) else (y.1.drop (t % longN r * (c * wB (w : Int))), 0)
theorem Bly {t : Nat} (ht : t < n) (h : (Vl (Asu b p f c w r n A l) (Asw b A l) (l.length - t / longN r) (t / longN r) []).2 = 0) : t % longN r * (c * wB (w : Int)) ≤ (Vl (Asu b p f c w r n A l) (Asw b A l) (l.length - t / longN r) (t / longN r) []).1.length := by
 obtain ⟨hc, hw, hr, hn, _⟩ := Af4 o.shape
 obtain ⟨h1, h2⟩ := Alu (Ab0 r) ht
 have hlen := o.len
 rw [Adg] at hlen
 obtain ⟨m, x, s, e, g⟩ := Arl o (t / longN r) (by omega)
 rw [show l.length - t / longN r = (l.length - t / longN r - 1) + 1 by omega] at h ⊢
 obtain ⟨h3, h4⟩ := Bbd _ _ _ _ h
 rw [g.eq] at h3 h4
 have h5 := (g.len hw).2.2 h3
 have h6 := h2 m g.mom
 simp only at h4
 have := Nat.mul_le_mul_right (c * wB (w : Int)) (Nat.le_of_lt h6)
 rw [← Nat.mul_assoc m] at this
 omega
theorem Bn9 (t : Int) : Abt b p t = some (if t < 0 ∨ (n : Int) ≤ t then ([], 2) else atS b p f c w r n A l t.toNat) := by
 obtain ⟨hc, hw, hr, hn, _⟩ := Af4 o.shape
 have hfit : n ≤ 4000 / c := by have := o.fit; simp only [fitB, decide_eq_true_eq] at this; exact this.1
 have hn4 : n ≤ 4000 := by have := Nat.div_le_self 4000 c; omega
 have hlen := o.len
 have hs1 := o.some1
 rw [Adg] at hlen
 rw [Abt, o.prog, Aa]
 simp only
 rw [if_neg (by rw [Am]; simp)]
 by_cases hk : t < 0 ∨ (n : Int) ≤ t
 ·rw [if_pos hk, if_pos (by simp [Af, Cz]; omega)]
 ·rw [if_neg hk, if_neg (by simp [Af, Cz]; omega)]
  obtain ⟨t, rfl⟩ := Int.eq_ofNat_of_zero_le (show 0 ≤ t by omega)
  have ht : t < n := by omega
  have hg := Ab0 r
  obtain ⟨h1, h2⟩ := Alu hg ht
  have hmod := Nat.mod_lt t (show 0 < longN r by omega)
  have hmle := Nat.mod_le t (longN r)
  rw [Ahk, Ao7 hr.1 hr.2 hn hn4, if_neg (by omega), Aa]
  simp only
  rw [if_neg (by rw [Am]; simp), if_neg (by simp [Af, Cz]; omega), Arb hr.1 hr.2, Aa]
  simp only
  rw [Cm (by rw [Am]; simp; omega), Aa, Aa, Aa, Bj7 (by omega), Aro]
  simp only
  rw [if_neg (by rw [Am]; simp), Axj o, if_neg (fun h => h.elim (fun h => absurd h (Int.not_lt.2 (Int.natCast_nonneg _))) fun h => by have := Int.ofNat_le.1 h; omega), Aa, Int.toNat_natCast, Int.toNat_natCast, atS]
  have hfit2 := Bly o ht
  generalize Vl (Asu b p f c w r n A l) (Asw b A l) (l.length - t / longN r) (t / longN r) [] = y at *
  obtain ⟨y1, y2⟩ := y
  simp only at hfit2 ⊢
  by_cases hy : y2 ≠ 0
  ·rw [if_pos hy, if_pos (by rw [Am]; simpa using hy)]
  ·have := hfit2 (by simpa using hy)
   rw [if_neg hy, if_neg (by rw [Am]; simpa using hy), Cm (by simp), Aa, Bqq (by omega) hc.2 hw, Lk (by omega) (by omega), Aa, Int.toNat_natCast]
theorem Bav (t : Int) : Is b p t = some (if t < 0 ∨ (n : Int) ≤ t then ([], 2) else atS b p f c w r n A l t.toNat) := by
 obtain ⟨hc, hw, hr, hn, _⟩ := Af4 o.shape
 have hfit : n ≤ 4000 / c := by have := o.fit; simp only [fitB, decide_eq_true_eq] at this; exact this.1
 have hn4 : n ≤ 4000 := by have := Nat.div_le_self 4000 c; omega
 have hlen := o.len
 have hs1 := o.some1
 rw [Adg] at hlen
 rw [Is, Qm, Apr o.pass o.ref, Aa]
 simp only
 rw [if_neg (by rw [Am]; simp)]
 by_cases hk : t < 0 ∨ (n : Int) ≤ t
 ·rw [if_pos hk, if_pos (by simp [Af, Cz]; omega)]
 ·rw [if_neg hk, if_neg (by simp [Af, Cz]; omega)]
  obtain ⟨t, rfl⟩ := Int.eq_ofNat_of_zero_le (show 0 ≤ t by omega)
  have ht : t < n := by omega
  have hg := Ab0 r
  obtain ⟨h1, h2⟩ := Alu hg ht
  have hmod := Nat.mod_lt t (show 0 < longN r by omega)
  have hmle := Nat.mod_le t (longN r)
  have hl := Bba b p f c w r n A l hg ht hn4 (t / longN r) 0 Ba (by omega) (by have := Au; have := Nat.div_le_self t (longN r); omega)
  rw [Nat.zero_mul, Nat.sub_zero] at hl
  rw [Apm hr.2 hn hn4, Aa, Xd]
  refine Eq.trans hl ?_
  rw [Ph, Af5, Bbr o _ (by omega), Aa, Int.toNat_natCast, atS]
  have hfit2 := Bly o ht
  generalize Vl (Asu b p f c w r n A l) (Asw b A l) (l.length - t / longN r) (t / longN r) [] = y at *
  obtain ⟨y1, y2⟩ := y
  simp only at hfit2 ⊢
  by_cases hy : y2 ≠ 0
  ·rw [if_pos hy, if_pos (by rw [Am]; simpa using hy)]
  ·have := hfit2 (by simpa using hy)
   have b1 : t % longN r * (c * wB (w : Int)) ≤ 4000 * (6 * 3) := Nat.mul_le_mul (by omega) (Nat.mul_le_mul hc.2 (Bjv (w : Int)).2)
   rw [if_neg hy, if_neg (by rw [Am]; simpa using hy), Vu, Bqt hc.2 hw, Aa, Gz (by rw [← Int.natCast_mul]; omega) (by rw [← Int.natCast_mul]; omega), ← Int.natCast_mul, Lk (by omega) (by omega), Aa, Int.toNat_natCast]
end
theorem Bnt (b p : List UInt8) (hb : b.length ≤ 100100) (hp : p.length ≤ 1000) (k : Int) : ∃ y, Abt b p k = some y ∧ Is b p k = some y := by
 by_cases h64 : 64 < p.length
 ·obtain ⟨h1, h2⟩ := Ax1 b p h64 hp
  exact ⟨_, Bjx (by omega) h1 k, Awa (by omega) h2 k⟩
 ·rcases Bgg b p hb (by omega) with ⟨e, he, h1, h2⟩ | ⟨f, c, w, r, n, A, l, o⟩
  ·exact ⟨_, Bjx he h1 k, Awa he (Apr (by omega) h2) k⟩
  ·exact ⟨_, Bn9 o k, Bav o k⟩
theorem law_SeektoGoes (b p : List UInt8) (n m : Int) : Om b p n m = some true := by
 rw [Om, Aaa, Aa]
 by_cases h : (((Hp (Ac b) (5000 : Int)) && (Df (Ac b) (12000 : Int))) || (Hp (Ac b) (12100 : Int)) || (Hp (Ac p) (100 : Int))) = true
 ·rw [if_pos h]
 ·have hb : b.length ≤ 12100 ∧ p.length ≤ 100 := by
   simp [Bb, Af, Ac] at h; omega
  obtain ⟨y, h1, h2⟩ := Bjg b p (by omega) (by omega) n
  obtain ⟨z, h3, h4⟩ := Bnt b p (by omega) (by omega) m
  rw [if_neg h, h1, h2, h3, h4]
  obtain ⟨y1, y2⟩ := y
  obtain ⟨z1, z2⟩ := z
  simp only [Aa]
  rw [Cg, Cg]
  simp
end Go.Pl
