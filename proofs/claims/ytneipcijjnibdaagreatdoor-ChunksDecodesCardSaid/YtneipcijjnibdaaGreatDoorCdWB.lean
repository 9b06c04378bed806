/- A part of the proof of a statement of this seat (see the text that ends in Proof): LwSeek, LwOpen, LwFrame, LwBack, LwGot, LwWs, LwGoes, LwPol, LwRt, LwClip, LwPts, LwTrc, LwPd, LwDt, LwDu, LwNn, LwHdI, LwFit, LwFitC, LwStart, LwChk, LwChkT, LwChkF, LwPc, LwTake, LwGre, LwSteps, LwFed, LwPcs, LwDec, LwWays, LwCd. No conditions of its own. -/
import Derived.Test.YtneipcijjnibdaaGreatDoorCdWA
import Derived.Test.YtneipcijjnibdaaGreatDoorCdPA
import Derived.KernelRfl
set_option linter.unusedVariables false
set_option linter.unusedSimpArgs false
namespace Go.Pl
open Go Go.Lv
def okL : List Int → Int → Bool
 | [], _ => true
 | x :: l, left => decide (5 ≤ x ∧ x ≤ left) && okL l (left - x)
theorem Byd : ∀ l : List Int, (∀ x ∈ l, 5 ≤ x) → 0 ≤ l.sum
 | [], _ => by simp
 | x :: l, h => by
  have h1 := h x List.mem_cons_self
  have h2 := Byd l fun y hy => h y (List.mem_cons_of_mem _ hy)
  rw [List.sum_cons]; omega
theorem Atb : ∀ (l : List Int) (left : Int), 0 ≤ left → (okL l left = true ↔ (∀ x ∈ l, 5 ≤ x) ∧ l.sum ≤ left)
 | [], left, h => by simp [okL]; exact h
 | x :: l, left, h => by
  rw [okL, Bool.and_eq_true, decide_eq_true_eq, List.sum_cons]
  by_cases hx : 5 ≤ x ∧ x ≤ left
  ·rw [Atb l (left - x) (by omega)]
   constructor
   ·rintro ⟨_, h1, h2⟩
    exact ⟨fun y hy => (List.mem_cons.1 hy).elim (fun e => e ▸ hx.1) (h1 y), by omega⟩
   ·rintro ⟨h1, h2⟩
    exact ⟨hx, fun y hy => h1 y (List.mem_cons_of_mem _ hy), by omega⟩
  ·constructor
   ·rintro ⟨h1, _⟩; exact absurd h1 hx
   ·rintro ⟨h1, h2⟩
    have h3 := h1 x List.mem_cons_self
    have : 0 ≤ l.sum := Byd l fun y hy => h1 y (List.mem_cons_of_mem _ hy)
    omega
theorem Bbb (l : List Int) (hl : l.length ≤ 1000) : ∀ (j i q : Nat) (left : Int), i + j = l.length → j < q → 0 ≤ left → left ≤ 100000 → Tk l q left (i : Int) = some (if okL (l.drop i) left = true then 0 else 8)
 | 0, i, q + 1, left, hi, _, _, _ => by
  rw [Tk, Adl, if_neg (by rw [Af, Ac]; simp; omega), show i = l.length by omega, List.drop_length]; rfl
 | j + 1, i, q + 1, left, hi, hq, h0, h1 => by
  have hlt : i < l.length := by omega
  rw [Tk, Adl, if_pos (by rw [Af, Ac]; simp; omega), Cq hlt, Aa, drop_cons hlt]
  by_cases h : 5 ≤ l[i] ∧ l[i] ≤ left
  ·rw [if_neg (by simp [Af, As]; omega), Bh (by omega) (by omega), Ah (by omega) (by omega)]
   have ih := Bbb l hl j (i + 1) q (left - l[i]) (by omega) (by omega) (by omega) (by omega)
   rw [show ((i : Int) + 1) = ((i + 1 : Nat) : Int) by omega, ih]
   simp [okL, h]
  ·rw [if_pos (by simp [Af, As]; omega)]
   have : okL (l[i] :: l.drop (i + 1)) left = false := by rw [okL, decide_eq_false h]; rfl
   rw [this]; rfl
def tabB (l : List Int) : Bool := decide (1 ≤ l.length ∧ l.length ≤ 1000) && okL l 100000
theorem Be8 (l : List Int) (hl : l.length ≤ 1000) : Tq l = some (if tabB l = true then 0 else 8) := by
 rw [Tq, Aez, tabB]
 by_cases h : 1 ≤ l.length
 ·rw [if_neg (by rw [Ba, As, Ac]; simp; constructor; (intro e; subst e; simp at h); omega), Ak5]
  have := Bbb l hl l.length 0 Au 100000 (by omega) (by have := Aq; omega) (by omega) (by omega)
  rw [List.drop_zero] at this
  rw [decide_eq_true (show 1 ≤ l.length ∧ l.length ≤ 1000 from ⟨h, hl⟩), Bool.true_and]
  exact this
 ·have : l = [] := by
   cases l with
   | nil => rfl
   | cons _ _ => simp at h
  subst this; rfl
theorem Bd0 (l : List Int) (hl : l.length ≤ 1000) : ∀ (j i q : Nat) (s : Int), i + j = l.length → j < q → 0 ≤ s → s ≤ 100000 * (i : Int) → Gn l q s (i : Int) = some (if (∀ x ∈ l.drop i, 5 ≤ x ∧ x ≤ 100000) ∧ s + (l.drop i).sum ≤ 100000 then 0 else 8)
 | 0, i, q + 1, s, hi, _, _, _ => by
  rw [Gn, Nm, if_neg (by rw [Af, Ac]; simp; omega), show i = l.length by omega, List.drop_length, Ts, Aeh]
  by_cases h : s ≤ 100000
  ·rw [if_neg (by rw [As]; simp; omega), if_pos (by simp; omega)]
  ·rw [if_pos (by rw [As]; simp; omega), if_neg (by simp; omega)]
 | j + 1, i, q + 1, s, hi, hq, h0, h1 => by
  have hlt : i < l.length := by omega
  rw [Gn, Nm, if_pos (by rw [Af, Ac]; simp; omega), Cq hlt, Aa, drop_cons hlt]
  by_cases h5 : l[i] < 5
  ·rw [if_pos (by rw [Af]; simpa using h5), if_neg (fun h => by have := (h.1 l[i] List.mem_cons_self).1; omega)]
  ·rw [if_neg (by rw [Af]; simpa using h5), Aa]
   by_cases h6 : 100000 < l[i]
   ·rw [if_pos (by rw [As]; simpa using h6), if_neg (fun h => by have := (h.1 l[i] List.mem_cons_self).2; omega)]
   ·rw [if_neg (by rw [As]; simpa using h6), Vw, Afn, Cq hlt, Aa, Ah (by omega) (by omega), Ah (by omega) (by omega)]
    have ih := Bd0 l hl j (i + 1) q (s + l[i]) (by omega) (by omega) (by omega) (by omega)
    rw [show ((i : Int) + 1) = ((i + 1 : Nat) : Int) by omega, ih]
    have e : ((∀ x ∈ l.drop (i + 1), 5 ≤ x ∧ x ≤ 100000) ∧ s + l[i] + (l.drop (i + 1)).sum ≤ 100000) ↔ ((∀ x ∈ l[i] :: l.drop (i + 1), 5 ≤ x ∧ x ≤ 100000) ∧ s + (l[i] :: l.drop (i + 1)).sum ≤ 100000) := by
     rw [List.sum_cons, List.forall_mem_cons, Int.add_assoc]
     constructor
     ·rintro ⟨a, b⟩; exact ⟨⟨by omega, a⟩, b⟩
     ·rintro ⟨⟨_, a⟩, b⟩; exact ⟨a, b⟩
    simp only [e]
theorem Bfw : ∀ {l : List Int}, (∀ x ∈ l, 5 ≤ x) → ∀ x ∈ l, x ≤ l.sum
 | [], _, x, hx => by simp at hx
 | y :: l, h, x, hx => by
  have h1 := h y List.mem_cons_self
  have h2 := Byd l fun z hz => h z (List.mem_cons_of_mem _ hz)
  rw [List.sum_cons]
  rcases List.mem_cons.1 hx with rfl | hx
  ·omega
  ·have := Bfw (l := l) (fun z hz => h z (List.mem_cons_of_mem _ hz)) x hx
   omega
theorem Bis (l : List Int) (hl : l.length ≤ 1000) : Er l = some (if tabB l = true then 0 else 8) := by
 rw [Er, Nk, tabB]
 by_cases h : 1 ≤ l.length
 ·have := Bd0 l hl l.length 0 Au 0 (by omega) (by have := Aq; omega) (by omega) (by omega)
  rw [if_neg (by rw [Af, As, Ac]; simp; omega), Wk]
  refine Eq.trans this ?_
  rw [List.drop_zero, decide_eq_true (show 1 ≤ l.length ∧ l.length ≤ 1000 from ⟨h, hl⟩), Bool.true_and]
  have e : ((∀ x ∈ l, 5 ≤ x ∧ x ≤ 100000) ∧ 0 + l.sum ≤ 100000) ↔ okL l 100000 = true := by
   rw [Atb l 100000 (by omega), Int.zero_add]
   constructor
   ·rintro ⟨a, b⟩; exact ⟨fun x hx => (a x hx).1, b⟩
   ·rintro ⟨a, b⟩; exact ⟨fun x hx => ⟨a x hx, Int.le_trans (Bfw a x hx) b⟩, b⟩
  simp only [e]
 ·have : l = [] := by
   cases l with
   | nil => rfl
   | cons _ _ => simp at h
  subst this; rfl
theorem Ash (l : List Int) : Tq l = some (if tabB l = true then 0 else 8) := by
 by_cases hl : l.length ≤ 1000
 ·exact Be8 l hl
 ·rw [Tq, Aez, if_pos (by rw [As, Ac]; simp; omega), tabB, decide_eq_false (by omega)]; rfl
theorem Ati (l : List Int) : Er l = some (if tabB l = true then 0 else 8) := by
 by_cases hl : l.length ≤ 1000
 ·exact Bis l hl
 ·rw [Er, Nk, if_pos (by rw [As, Ac]; simp; omega), tabB, decide_eq_false (by omega)]; rfl
theorem Bk5 (l : List Int) (hl : l.length ≤ 1000) (hx : ∀ x ∈ l, 0 ≤ x ∧ x < 4294967296) : Tq l = some (if tabB l = true then 0 else 8) := Ash l
theorem Bo2 (l : List Int) (hl : l.length ≤ 1000) (hx : ∀ x ∈ l, 0 ≤ x ∧ x < 4294967296) : Er l = some (if tabB l = true then 0 else 8) := Ati l
def Am9 (b : List UInt8) (n : Nat) : List Int := (List.range n).map fun i => (Dy (part b (4 * i) 4) : Int)
theorem Ahf (b : List UInt8) (n : Nat) : (Am9 b n).length = n := by simp [Am9]
theorem Bec (b : List UInt8) (n : Nat) : Am9 b (n + 1) = Am9 b n ++ [(Dy (part b (4 * n) 4) : Int)] := by simp [Am9, List.range_succ]
theorem Bnc (b : List UInt8) (n : Nat) (h : 4 * n ≤ b.length) : ∀ x ∈ Am9 b n, 0 ≤ x ∧ x < 4294967296 := by
 intro x hx
 simp only [Am9, List.mem_map, List.mem_range] at hx
 obtain ⟨i, hi, rfl⟩ := hx
 have := Bn0 (l := part b (4 * i) 4) (by rw [Cy (by omega)]; omega)
 omega
def Oa (b : List UInt8) (n : Nat) : List Int × Int :=
 if ¬ (1 ≤ n ∧ n ≤ 1000) then ([], 2) else if b.length < 4 * n + 4 then ([], 24) else if (Io (b.take (4 * n))).toNat ≠ Dy (part b (4 * n) 4) then ([], 22) else
 if tabB (Am9 b n) = true then (Am9 b n, 0) else ([], 12)
theorem Bns {b : List UInt8} {n : Nat} (h : 1 ≤ n ∧ n ≤ 1000) (h2 : ¬ b.length < 4 * n + 4) : Bn (Ad (Io (b.take (4 * n))) : UInt64) (leU (part b (4 * n) 4)) = decide ((Io (b.take (4 * n))).toNat ≠ Dy (part b (4 * n) 4)) := by
 rw [Ajn, Iy, Bool.eq_iff_iff]
 simp only [bne_iff_ne, ne_eq, decide_eq_true_eq]
 rw [← UInt64.toNat_inj, Als (by have := (Io (b.take (4 * n))).toNat_lt; omega), Al2 (by rw [Cy (by omega)]; omega)]
section
variable {b : List UInt8} {n : Nat}
theorem ss1 (h : ¬ (1 ≤ n ∧ n ≤ 1000)) : Oa b n = ([], 2) := by rw [Oa, if_pos h]
variable (h : 1 ≤ n ∧ n ≤ 1000)
include h
theorem ss2 (h2 : b.length < 4 * n + 4) : Oa b n = ([], 24) := by rw [Oa, if_neg (fun e => e h), if_pos h2]
variable (h2 : ¬ b.length < 4 * n + 4)
include h2
theorem ss3 (h3 : (Io (b.take (4 * n))).toNat ≠ Dy (part b (4 * n) 4)) : Oa b n = ([], 22) := by rw [Oa, if_neg (fun e => e h), if_neg h2, if_pos h3]
theorem ss4 (h3 : (Io (b.take (4 * n))).toNat = Dy (part b (4 * n) 4)) : Oa b n = if tabB (Am9 b n) = true then (Am9 b n, 0) else ([], 12) := by rw [Oa, if_neg (fun e => e h), if_neg h2, if_neg (fun e => e h3)]
end
theorem Bdg (b : List UInt8) (l8 : List Int) (n : Nat) (hn : n ≤ 1000) (h8 : l8.length = n) (hb : 4 * n + 4 ≤ b.length) (hb2 : b.length < 4611686018427387904) : ∀ (j i q : Nat), i + j = n → j < q → Vi b l8 q (i : Int) (Am9 b i ++ List.replicate j 0) = Agw (Am9 b n)
 | 0, i, q + 1, hi, _ => by
  obtain rfl : i = n := by omega
  rw [Vi, Agu, if_neg (by rw [Af, Ac]; simp; omega)]; simp
 | j + 1, i, q + 1, hi, hq => by
  have hlen : (Am9 b i ++ List.replicate (j + 1) 0).length = i + (j + 1) := by simp [Ahf]
  have ha := Beq b (4 * i) 4 (by omega) (by omega) (by omega) hb2
  rw [Vi, Agu, if_pos (by rw [Af, Ac]; simp; omega), Ik (by omega) (by omega), show (4 : Int) * (i : Int) = ((4 * i : Nat) : Int) by omega, show (4 : Int) = ((4 : Nat) : Int) from rfl, ha, Aa]
  simp only
  rw [Cq (by rw [hlen]; omega), Aa, Aap _ (by rw [hlen]; omega), Aa, Agx (by rw [Cy (by omega)]; omega), Ah (by omega) (by omega), List.replicate_succ, As5 (Ahf _ _)]
  have ih := Bdg b l8 n hn h8 hb hb2 j (i + 1) q (by omega) (by omega)
  rw [Bec] at ih
  rw [show ((i : Int) + 1) = ((i + 1 : Nat) : Int) by omega, ← ih]
  simp
theorem Bc7 (b : List UInt8) (n : Nat) (hb : b.length ≤ 100100) : Ak8 b (n : Int) = some (Oa b n) := by
 rw [Ak8, Am1]
 by_cases h : 1 ≤ n ∧ n ≤ 1000
 ·rw [if_neg (by simp [Af, As]; omega), Ik (by omega) (by omega), Ah (by omega) (by omega)]
  by_cases h2 : b.length < 4 * n + 4
  ·rw [if_pos (by rw [Af, Ac]; simp; omega), ss2 h h2]
  ·have ha : Ans b (4 * (n : Int)) 4 = some (leU (part b (4 * n) 4), 0) := by
    rw [show (4 : Int) * (n : Int) = ((4 * n : Nat) : Int) by omega]
    exact Beq b (4 * n) 4 (by omega) (by omega) (by omega) (by omega)
   rw [if_neg (by rw [Af, Ac]; simp; omega), ha, Aa]
   simp only
   rw [Dh (by omega) (by omega), Aa, show (4 * (n : Int)).toNat = 4 * n by omega, Blp _ (by simp; omega), Aa]
   simp only
   rw [Bns h h2]
   by_cases h3 : (Io (b.take (4 * n))).toNat = Dy (part b (4 * n) 4)
   ·have hlp := Bdg b (List.replicate n 0) n (by omega) (by simp) (by omega) (by omega) n 0 Au (by omega) (by have := Aq; omega)
    rw [if_neg (by simpa using h3), Bap (by omega) (by omega), Aa, Cp (by rw [Ba]; simp), Aa, Amy, Int.toNat_natCast]
    refine Eq.trans (hlp) ?_
    rw [Agw, Atv, Bk5 _ (by rw [Ahf]; omega) (Bnc b n (by omega)), Aa, ss4 h h2 h3]
    cases tabB (Am9 b n) <;> rfl
   ·rw [if_pos (by simpa using h3), ss3 h h2 h3]
 ·rw [if_pos (by simp [Af, As]; omega), ss1 h]
theorem Ats (b : List UInt8) (n : Nat) (hn : n ≤ 1000) (hb : 4 * n + 4 ≤ b.length) (hb2 : b.length < 4611686018427387904) : ∀ (j i q : Nat), i + j = n → j < q → Hi b (n : Int) q (i : Int) (Am9 b i) = Pc (Am9 b n)
 | 0, i, q + 1, hi, _ => by
  obtain rfl : i = n := by omega
  rw [Hi, Pb, if_neg (by rw [Af]; simp)]
 | j + 1, i, q + 1, hi, hq => by
  have hc : Bc b ((4 : Int) * (i : Int)) ((4 : Int) * (i : Int) + 4) = some (part b (4 * i) 4) := by
   rw [show (4 : Int) * (i : Int) = ((4 * i : Nat) : Int) by omega]
   exact Qa (4 * i) 4 (by omega)
  rw [Hi, Pb, if_pos (by rw [Af]; simp; omega), Ik (by omega) (by omega), Ah (by omega) (by omega), hc, Aa, Bh7 _ (by rw [Cy (by omega)]; omega), Aa, Ca (by rw [Ahf]; simp; omega), Aa,
   Agx (by rw [Cy (by omega)]; omega), Ah (by omega) (by omega), ← Bec]
  exact Ats b n hn hb hb2 j (i + 1) q (by omega) (by omega)
theorem Br4 (b : List UInt8) (n : Nat) (hb : b.length ≤ 100100) : Xu b (n : Int) = some (Oa b n) := by
 rw [Xu, Xy]
 by_cases h : 1 ≤ n ∧ n ≤ 1000
 ·rw [if_neg (by simp [Af, As]; omega), Ik (by omega) (by omega), Ah (by omega) (by omega)]
  by_cases h2 : b.length < 4 * n + 4
  ·rw [if_pos (by rw [Af, Ac]; simp; omega), ss2 h h2]
  ·have hc : Bc b ((4 : Int) * (n : Int)) ((4 : Int) * (n : Int) + 4) = some (part b (4 * n) 4) := by
    rw [show (4 : Int) * (n : Int) = ((4 * n : Nat) : Int) by omega]
    exact Qa (4 * n) 4 (by omega)
   have hs : Bn (leU (part b (4 * n) 4)) (Ad (Io (b.take (4 * n))) : UInt64) = decide ((Io (b.take (4 * n))).toNat ≠ Dy (part b (4 * n) 4)) := by
    rw [← Bns h h2, Ajn, Ajn, Bool.eq_iff_iff]; simp only [bne_iff_ne, ne_eq]; exact not_congr eq_comm
   rw [if_neg (by rw [Af, Ac]; simp; omega), hc, Aa, Dh (by omega) (by omega), Aa, show (4 * (n : Int)).toNat = 4 * n by omega, Bh7 _ (by rw [Cy (by omega)]; omega), Aa, Bs1 _ (by simp; omega), Aa, hs]
   by_cases h3 : (Io (b.take (4 * n))).toNat = Dy (part b (4 * n) 4)
   ·have hlp := Ats b n (by omega) (by omega) (by omega) n 0 Au (by omega) (by have := Aq; omega)
    rw [if_neg (by simpa using h3), Yr, Yx, Zi]
    refine Eq.trans hlp ?_
    rw [Pc, Ahz, Bo2 _ (by rw [Ahf]; omega) (Bnc b n (by omega)), Aa, ss4 h h2 h3]
    cases tabB (Am9 b n) <;> rfl
   ·rw [if_pos (by simpa using h3), ss3 h h2 h3]
 ·rw [if_pos (by simp [Af, As]; omega), ss1 h]
theorem Bit {b : List UInt8} {n : Nat} (h : (Oa b n).2 = 0) : Oa b n = (Am9 b n, 0) ∧ 1 ≤ n ∧ n ≤ 1000 ∧ 4 * n + 4 ≤ b.length ∧ (∀ x ∈ Am9 b n, 5 ≤ x) ∧ (Am9 b n).sum ≤ 100000 := by
 unfold Oa at h ⊢
 split at h; · simp at h
 rename_i c1; rw [if_neg c1]
 split at h; · simp at h
 rename_i c2; rw [if_neg c2]
 split at h; · simp at h
 rename_i c3; rw [if_neg c3]
 split at h
 ·rename_i c4
  rw [if_pos c4]
  have c4' := c4
  rw [tabB, Bool.and_eq_true, Atb _ _ (by omega)] at c4'
  exact ⟨rfl, by omega, by omega, by omega, c4'.2.1, c4'.2.2⟩
 ·simp at h
end Go.Pl
set_option linter.unusedVariables false
set_option linter.unusedSimpArgs false
namespace Go.Pl
open Go Go.Lv
def hdr (b : List UInt8) : List UInt8 := b.drop (Gu b).1.toNat
theorem Bke (A K : Nat) (h : A ≤ 200000) (hk : K ≤ 1000) : Ae (Ae (A : Int) (Bq 4 (K : Int))) 4 = ((A + 4 * K + 4 : Nat) : Int) := by
 rw [Ik (by omega) (by omega), Ah (a := (A : Int)) (by omega) (by omega), Ah (by omega) (by omega)]; omega
end Go.Pl
set_option linter.unusedVariables false
set_option linter.unusedSimpArgs false
namespace Go.Pl
open Go Go.Lv
theorem Bpa (l : List Int) (i : Nat) : (l.take i).sum + (l.drop i).sum = l.sum := by
 conv => rhs; rw [← List.take_append_drop i l, List.sum_append]
theorem Atr {l : List Int} {i : Nat} (h : i < l.length) : (l.take (i + 1)).sum = (l.take i).sum + l[i] := by
 rw [Aog h, List.sum_append]; simp
theorem Auw {g n : Nat} (hg : 1 ≤ g) (hn : 1 ≤ n) {x : Int} (h : x ∈ framesL g n) : ∃ m : Nat, x = m ∧ 1 ≤ m ∧ m ≤ n := by
 have hmul := Nat.div_mul_le_self (n - 1) g
 rw [framesL, List.mem_append] at h
 rcases h with h | h
 ·rw [List.mem_replicate] at h
  have h1 : 1 ≤ (n - 1) / g := Nat.pos_of_ne_zero h.1
  have := Nat.mul_le_mul_right g h1
  exact ⟨g, h.2, hg, by omega⟩
 ·rw [List.mem_singleton] at h
  exact ⟨_, h, by omega, by omega⟩
theorem Av0 {f c w r n : Nat} (h : shapeB f c w r n = true) : (1 ≤ c ∧ c ≤ 6) ∧ Dj (w : Int) ∧ (1 ≤ r ∧ r ≤ 1048576) ∧ 1 ≤ n ∧ (f = 1 ∨ f = 2) := by
 simp only [shapeB, decide_eq_true_eq] at h
 refine ⟨h.2.1, ?_, h.2.2.2.1, h.2.2.2.2, h.1⟩
 rcases h.2.2.1 with rfl | rfl | rfl
 ·exact .inl rfl
 ·exact .inr (.inl rfl)
 ·exact .inr (.inr rfl)
end Go.Pl
set_option linter.unusedVariables false
set_option linter.unusedSimpArgs false
namespace Go.Pl
open Go Go.Lv
theorem Bxn (n m : Nat) : Og n m 0 ≠ Og n m 2147483648 := by
 intro h
 simp [Og, leB, APE] at h
def Bv (b : List UInt8) : List UInt8 := b.drop (b.length - 32)
theorem Bjs {b : List UInt8} (h : 32 ≤ b.length) : (Bv b).length = 32 := by rw [Bv, List.length_drop]; omega
def itA (t : List UInt8) : Nat := Dy (part t 12 4) - 32
def mnA (t : List UInt8) : Nat := Dy (part t 16 4)
def Ye (b : List UInt8) : Int × Int :=
 if ¬ (32 ≤ b.length ∧ (Bv b).take 8 = APE) then (0, 6) else if Ahh (Bv b) = true then (0, 12) else
 if Bv b = Og (itA (Bv b)) (mnA (Bv b)) 0 then (if b.length < itA (Bv b) + 32 then (0, 24) else (((itA (Bv b) + 32 : Nat) : Int), 0)) else
 if Bv b ≠ Og (itA (Bv b)) (mnA (Bv b)) 2147483648 then (0, 12) else
 if b.length < itA (Bv b) + 64 then (0, 24) else
 if (b.take (b.length - (itA (Bv b) + 64) + 32)).drop (b.length - (itA (Bv b) + 64)) ≠ Og (itA (Bv b)) (mnA (Bv b)) 2684354560 then (0, 12) else (((itA (Bv b) + 64 : Nat) : Int), 0)
section
variable {b : List UInt8}
theorem ba1 (h : ¬ (32 ≤ b.length ∧ (Bv b).take 8 = APE)) : Ye b = (0, 6) := by rw [Ye, if_pos h]
variable (h : 32 ≤ b.length ∧ (Bv b).take 8 = APE)
include h
theorem ba2 (h2 : Ahh (Bv b) = true) : Ye b = (0, 12) := by rw [Ye, if_neg (fun h' => h' h), if_pos h2]
variable (h2 : Ahh (Bv b) = false)
include h2
theorem ba3 (h3 : Bv b = Og (itA (Bv b)) (mnA (Bv b)) 0) : Ye b = if b.length < itA (Bv b) + 32 then (0, 24) else (((itA (Bv b) + 32 : Nat) : Int), 0) := by
 rw [Ye, if_neg (fun h' => h' h), if_neg (by rw [h2]; simp), if_pos h3]
variable (h3 : Bv b ≠ Og (itA (Bv b)) (mnA (Bv b)) 0)
include h3
theorem ba4 (h4 : Bv b ≠ Og (itA (Bv b)) (mnA (Bv b)) 2147483648) : Ye b = (0, 12) := by
 rw [Ye, if_neg (fun h' => h' h), if_neg (by rw [h2]; simp), if_neg h3, if_pos h4]
variable (h4 : Bv b = Og (itA (Bv b)) (mnA (Bv b)) 2147483648)
include h4
theorem ba5 (h5 : b.length < itA (Bv b) + 64) : Ye b = (0, 24) := by
 rw [Ye, if_neg (fun h' => h' h), if_neg (by rw [h2]; simp), if_neg h3, if_neg (fun e => e h4), if_pos h5]
theorem ba6 (h5 : ¬ b.length < itA (Bv b) + 64) : Ye b = if (b.take (b.length - (itA (Bv b) + 64) + 32)).drop (b.length - (itA (Bv b) + 64)) ≠ Og (itA (Bv b)) (mnA (Bv b)) 2684354560 then (0, 12) else (((itA (Bv b) + 64 : Nat) : Int), 0) := by
 rw [Ye, if_neg (fun h' => h' h), if_neg (by rw [h2]; simp), if_neg h3, if_neg (fun e => e h4), if_neg h5]
end
theorem Bji {b : List UInt8} {n : Int} (h : Ye b = (n, 0)) : 32 ≤ n ∧ n ≤ b.length := by
 unfold Ye at h
 split at h; · simp at h
 rename_i h32
 split at h; · simp at h
 split at h
 ·split at h; · simp at h
  simp only [Prod.mk.injEq, and_true] at h; omega
 split at h; · simp at h
 split at h; · simp at h
 split at h; · simp at h
 simp only [Prod.mk.injEq, and_true] at h; omega
theorem Bot {b : List UInt8} (h : (Ye b).2 ≠ 0) : (Ye b).1 = 0 := by
 revert h
 unfold Ye
 split; · simp
 split; · simp
 split
 ·split <;> simp
 split; · simp
 split; · simp
 split <;> simp
theorem Bqt {b : List UInt8} (h : 32 ≤ b.length) (hl : b.length < 4611686018427387904) : Al (Ac b) 32 = ((b.length - 32 : Nat) : Int) ∧ Bc b ((b.length - 32 : Nat) : Int) (Ac b) = some (Bv b) := by
 refine ⟨by rw [Ac, Bh (by omega) (by omega)]; omega, ?_⟩
 rw [Cs (by omega) (by omega)]; rfl
theorem Boi (b : List UInt8) (hl : b.length < 4611686018427387904) : Au7 b = some (Ye b) := by
 rw [Au7, Ar2]
 by_cases h32 : 32 ≤ b.length
 ·obtain ⟨e1, e2⟩ := Bqt h32 hl
  have hl3 := Bjs h32
  rw [if_neg (by rw [e1, Af]; simp), e1, e2, Aa, Ape, Aa]
  by_cases hp : (Bv b).take 8 = APE
  ·have h := And.intro h32 hp
   rw [if_neg (by simpa [APE, hl3] using hp), Arj, Axy, e1, e2, Aa, Aoo _ 0 (by omega) (by omega) (by decide), Aa]
   cases hb : Ahh (Bv b) with
   | true =>
    rw [ba2 h hb]
    simp only [if_true, Bool.false_eq_true, if_false]
    rw [Aa, Aoo _ 2147483648 (by omega) (by omega) (by decide), Aa, hb]; rfl
   | false =>
    obtain ⟨i1, i2, i3, i4⟩ := Aww (Bv b) (by omega) hb
    have eI : Dy (part (Bv b) 12 4) - 32 = itA (Bv b) := rfl
    have eM : Dy (part (Bv b) 16 4) = mnA (Bv b) := rfl
    simp only [Bool.false_eq_true, if_false]
    rw [eI] at i3
    rw [eM] at i4
    rw [eI, eM]
    by_cases c1 : Bv b = Og (itA (Bv b)) (mnA (Bv b)) 0
    ·have c1' : Bv b = Og (itA (Bv b)) (mnA (Bv b)) (0 : UInt64).toNat := c1
     rw [if_pos (by simpa using c1'), ba3 h hb c1]
     by_cases c2 : b.length < itA (Bv b) + 32
     ·rw [if_pos (by rw [Af]; simp; omega), if_pos c2]
     ·rw [if_neg (by rw [Af]; simp; omega), if_neg c2, Ah (by omega) (by omega)]; rfl
    ·have c1' : ¬ Bv b = Og (itA (Bv b)) (mnA (Bv b)) (0 : UInt64).toNat := c1
     rw [if_neg (by simpa using c1'), Aa, Aoo _ 2147483648 (by omega) (by omega) (by decide), Aa, hb]
     simp only [Bool.false_eq_true, if_false]
     rw [eI, eM]
     by_cases c2 : Bv b = Og (itA (Bv b)) (mnA (Bv b)) 2147483648
     ·have c2' : Bv b = Og (itA (Bv b)) (mnA (Bv b)) (2147483648 : UInt64).toNat := c2
      rw [if_neg (by simpa using c2'), Ah (by omega) (by omega)]
      by_cases c3 : b.length < itA (Bv b) + 64
      ·rw [if_pos (by rw [Af, Ac]; simp; omega), ba5 h hb c1 c2 c3]
      ·rw [if_neg (by rw [Af, Ac]; simp; omega), Ac, Bh (by omega) (by omega), Ah (by omega) (by omega), Aft (by omega) (by omega) (by omega), Aa, Ba6 _ _ _ i3 i4 (by decide), Aa, Fc, Aa, ba6 h hb c1 c2 c3]
       rw [show ((b.length : Int) - (((itA (Bv b) : Nat) : Int) + 64)).toNat = b.length - (itA (Bv b) + 64) by omega, show ((b.length : Int) - (((itA (Bv b) : Nat) : Int) + 64) + 32).toNat = b.length - (itA (Bv b) + 64) + 32 by omega]
       have e7 : (2684354560 : UInt64).toNat = 2684354560 := rfl
       rw [e7]
       by_cases c4 : (b.take (b.length - (itA (Bv b) + 64) + 32)).drop (b.length - (itA (Bv b) + 64)) = Og (itA (Bv b)) (mnA (Bv b)) 2684354560
       ·rw [if_neg (by simpa using c4), if_neg (fun e => e c4)]; rfl
       ·rw [if_pos (by simpa using c4), if_pos c4]
     ·have c2' : ¬ Bv b = Og (itA (Bv b)) (mnA (Bv b)) (2147483648 : UInt64).toNat := c2
      rw [if_pos (by simpa using c2'), ba4 h hb c1 c2]
  ·rw [if_pos (by rw [Bool.not_eq_true', decide_eq_false_iff_not]; intro h; exact hp h.2), ba1 (fun h => hp h.2)]
 ·rw [if_pos (by rw [Ac, Bh (by omega) (by omega), Af]; simp; omega), ba1 (fun h => h32 h.1)]
theorem Bwi {b : List UInt8} (h : 32 ≤ b.length) : (b.take (b.length - 32 + 8)).drop (b.length - 32) = (Bv b).take 8 := by
 rw [Bv, List.take_drop]
theorem Bri (b : List UInt8) (hl : b.length < 4611686018427387904) : Xv b = some (Ye b) := by
 rw [Xv, Yv]
 by_cases h32 : 32 ≤ b.length
 ·obtain ⟨e1, e2⟩ := Bqt h32 hl
  have hl3 := Bjs h32
  rw [if_neg (by rw [Af, Ac]; simp; omega), e1, Ah (by omega) (by omega), Aft (by omega) (by omega) (by omega), Aa, show ((b.length - 32 : Nat) : Int).toNat = b.length - 32 from rfl, show (((b.length - 32 : Nat) : Int) + 8).toNat = b.length - 32 + 8 by omega, Bwi h32]
  by_cases hp : (Bv b).take 8 = APE
  ·have h := And.intro h32 hp
   rw [if_neg (by simpa [APE] using hp), Zj, Pp, e1, e2, Aa, Bj3 _ (by omega) (by omega), Aa]
   cases hb : Ahh (Bv b) with
   | true => rw [ba2 h hb]; rfl
   | false =>
    obtain ⟨i1, i2, i3, i4⟩ := Aww (Bv b) (by omega) hb
    have eI : Dy (part (Bv b) 12 4) - 32 = itA (Bv b) := rfl
    have eM : Dy (part (Bv b) 16 4) = mnA (Bv b) := rfl
    simp only [Bool.false_eq_true, if_false, Bool.not_true]
    rw [eI] at i3
    rw [eM] at i4
    rw [eI, eM, Di, if_pos rfl, Av8 _ _ _ i3 i4 (by decide), Aa, Aa]
    have e7 : (2147483648 : UInt64).toNat = 2147483648 := rfl
    have e8 : (2684354560 : UInt64).toNat = 2684354560 := rfl
    rw [e7]
    by_cases c2 : Bv b = Og (itA (Bv b)) (mnA (Bv b)) 2147483648
    ·have c1 : Bv b ≠ Og (itA (Bv b)) (mnA (Bv b)) 0 := fun e => Bxn (itA (Bv b)) (mnA (Bv b)) (e.symm.trans c2)
     rw [if_neg (by simpa using c2), Oy, Pn, if_pos (by simpa using c2), Oz, Zc, Ah (a := 32) (by omega) (by omega), Ah (by omega) (by omega)]
     by_cases c3 : b.length < itA (Bv b) + 64
     ·rw [if_pos (by rw [Af, Ac]; simp; omega), ba5 h hb c1 c2 c3]
     ·rw [if_neg (by rw [Af, Ac]; simp; omega), if_pos (by simpa using c2), Ac, Bh (by omega) (by omega), Ah (by omega) (by omega), Aft (by omega) (by omega) (by omega), Aa, Px, Av8 _ _ _ i3 i4 (by decide), Aa, Aa, ba6 h hb c1 c2 c3, e8]
      rw [show ((b.length : Int) - (32 + ((itA (Bv b) : Nat) : Int) + 32)).toNat = b.length - (itA (Bv b) + 64) by omega, show ((b.length : Int) - (32 + ((itA (Bv b) : Nat) : Int) + 32) + 32).toNat = b.length - (itA (Bv b) + 64) + 32 by omega]
      by_cases c4 : (b.take (b.length - (itA (Bv b) + 64) + 32)).drop (b.length - (itA (Bv b) + 64)) = Og (itA (Bv b)) (mnA (Bv b)) 2684354560
      ·rw [if_neg (by simpa using c4), if_neg (fun e => e c4), show (32 + ((itA (Bv b) : Nat) : Int) + 32) = ((itA (Bv b) + 64 : Nat) : Int) by omega]
      ·rw [if_pos (by simpa using c4), if_pos c4]
    ·rw [if_pos (by simpa using c2), Di, if_neg (by simp), Av8 _ _ _ i3 i4 (by decide), Aa, Aa]
     have e9 : (0 : UInt64).toNat = 0 := rfl
     rw [e9]
     by_cases c1 : Bv b = Og (itA (Bv b)) (mnA (Bv b)) 0
     ·rw [if_neg (by simpa using c1), Oy, Pn, if_neg (by simpa using c2), Oz, Zc, Ah (by omega) (by omega), ba3 h hb c1, if_neg (c := (Bv b == Og (itA (Bv b)) (mnA (Bv b)) 2147483648) = true) (by simpa using c2)]
      by_cases c3 : b.length < itA (Bv b) + 32
      ·rw [if_pos (by rw [Af, Ac]; simp; omega), if_pos c3]
      ·rw [if_neg (by rw [Af, Ac]; simp; omega), if_neg c3, show (32 + ((itA (Bv b) : Nat) : Int)) = ((itA (Bv b) + 32 : Nat) : Int) by omega]
     ·rw [if_pos (by simpa using c1), ba4 h hb c1 c2]
  ·rw [if_pos (by simpa [APE] using hp), ba1 (fun h => hp h.2)]
 ·rw [if_pos (by rw [Af, Ac]; simp; omega), ba1 (fun h => h32 h.1)]
def Bf4 : Nat → List UInt8 → Nat → Int × Int
 | 0, _, _ => (0, 38)
 | j + 1, b, a => if b = [] then ((a : Int), 0) else if (Ye b).2 ≠ 0 then (0, 38) else Bf4 j (b.take (b.length - (Ye b).1.toNat)) (a + 1)
theorem Bhu : ∀ (j q a : Nat) (b : List UInt8), b.length < j → j ≤ q → b.length ≤ 4000 → a + b.length ≤ 4000 → Vd q (a : Int) b = some (Bf4 j b a)
 | 0, _, _, _, h, _, _, _ => by omega
 | j + 1, q + 1, a, b, h, hq, h4, ha => by
  rw [Vd, Aip, Bf4]
  by_cases hb : b = []
  ·subst hb; rw [if_neg (by decide), if_pos rfl]; rfl
  ·have hpos : 0 < b.length := List.length_pos_iff.2 hb
   rw [if_pos (by rw [As, Ac]; simp; omega), if_neg hb, Boi b (by omega), Aa]
   have hbad := Bot (b := b)
   have hok := fun n => Bji (b := b) (n := n)
   generalize Ye b = v at *
   obtain ⟨n, e⟩ := v
   simp only at hbad ⊢
   rw [Agh, Aga]
   by_cases he : e ≠ 0
   ·rw [if_pos he, hbad he, if_pos (by decide)]
   ·obtain ⟨k1, k2⟩ := hok n (by rw [show e = 0 by simpa using he])
    rw [if_neg he, if_neg (by rw [Ba]; simp; omega), Ac, Bh (by omega) (by omega), Dh (by omega) (by omega), Aa, Af2, Ank, Ah (by omega) (by omega)]
    rw [show ((b.length : Int) - n).toNat = b.length - n.toNat by omega]
    have ih := Bhu j q (a + 1) (b.take (b.length - n.toNat)) (by rw [List.length_take]; omega) (by omega) (by rw [List.length_take]; omega) (by rw [List.length_take]; omega)
    rw [← ih]; rfl
theorem Bmu : ∀ (j q a : Nat) (b : List UInt8), b.length < j → j ≤ q → b.length ≤ 4000 → a + b.length ≤ 4000 → Ht q b (a : Int) = some (Bf4 j b a)
 | 0, _, _, _, h, _, _, _ => by omega
 | j + 1, q + 1, a, b, h, hq, h4, ha => by
  rw [Ht, Tw, Bf4]
  by_cases hb : b = []
  ·subst hb; rw [if_neg (by decide), if_pos rfl]; rfl
  ·have hpos : 0 < b.length := List.length_pos_iff.2 hb
   rw [if_pos (by rw [As, Ac]; simp; omega), if_neg hb, Bri b (by omega), Aa]
   have hok := fun n => Bji (b := b) (n := n)
   generalize Ye b = v at *
   obtain ⟨n, e⟩ := v
   simp only
   by_cases he : e ≠ 0
   ·rw [if_pos he, if_pos (by rw [Am]; simpa using he)]
   ·obtain ⟨k1, k2⟩ := hok n (by rw [show e = 0 by simpa using he])
    rw [if_neg he, if_neg (by rw [Am]; simpa using he), Ac, Bh (by omega) (by omega), Dh (by omega) (by omega), Aa, Ah (by omega) (by omega)]
    rw [show ((b.length : Int) - n).toNat = b.length - n.toNat by omega]
    have ih := Bmu j q (a + 1) (b.take (b.length - n.toNat)) (by rw [List.length_take]; omega) (by omega) (by rw [List.length_take]; omega) (by rw [List.length_take]; omega)
    rw [← ih]; rfl
def Ama (b : List UInt8) : Int × Int := if 4000 < b.length then (0, 38) else Bf4 (b.length + 1) b 0
theorem Bjn (b : List UInt8) (hl : b.length < 4611686018427387904) : Ajh b = some (Ama b) := by
 rw [Ajh, Aiq, Ama]
 by_cases h : 4000 < b.length
 ·rw [if_pos (by rw [As, Ac]; simp; omega), if_pos h]
 ·rw [if_neg (by rw [As, Ac]; simp; omega), if_neg h]
  exact Bhu _ Au 0 b (by omega) (by have := Aq; omega) (by omega) (by omega)
theorem Bl6 (b : List UInt8) (hl : b.length < 4611686018427387904) : Rm b = some (Ama b) := by
 rw [Rm, Ui, Ama]
 by_cases h : 4000 < b.length
 ·rw [if_pos (by rw [As, Ac]; simp; omega), if_pos h]
 ·rw [if_neg (by rw [As, Ac]; simp; omega), if_neg h]
  exact Bmu _ Au 0 b (by omega) (by have := Aq; omega) (by omega) (by omega)
end Go.Pl
set_option linter.unusedVariables false
set_option linter.unusedSimpArgs false
namespace Go.Pl
open Go Go.Lv
theorem Bx5 {a b : Nat} (h : a < 9223372036854775808) : Cn (a : Int) (b : Int) = ((a / b : Nat) : Int) := by
 have : a / b ≤ a := Nat.div_le_self _ _
 rw [Aij, Int.tdiv_eq_ediv_of_nonneg (by omega), ← Int.natCast_ediv]
 generalize a / b = k at *
 exact Ce (by omega) (by omega)
end Go.Pl
set_option linter.unusedVariables false
set_option linter.unusedSimpArgs false
namespace Go.Pl
open Go Go.Lv
variable (b : List UInt8)
end Go.Pl
set_option linter.unusedVariables false
set_option linter.unusedSimpArgs false
namespace Go.Pl
open Go Go.Lv
theorem Byv {c : Nat} {w : Nat} (hc : c ≤ 6) (hw : Dj (w : Int)) : Cn (Bq (c : Int) (w : Int)) 8 = ((c * wB (w : Int) : Nat) : Int) := by
 have h : w = 8 ∨ w = 16 ∨ w = 24 := by unfold Dj at hw; omega
 have : c = 0 ∨ c = 1 ∨ c = 2 ∨ c = 3 ∨ c = 4 ∨ c = 5 ∨ c = 6 := by omega
 rcases h with rfl | rfl | rfl <;> rcases this with rfl | rfl | rfl | rfl | rfl | rfl | rfl <;> rfl
theorem Bxv {w : Nat} (hw : Dj (w : Int)) : 8 * wB (w : Int) = w ∧ w ≤ 24 := by
 have h : w = 8 ∨ w = 16 ∨ w = 24 := by unfold Dj at hw; omega
 rcases h with rfl | rfl | rfl <;> exact ⟨rfl, by omega⟩
theorem Bxy {t c w : Nat} (ht : t ≤ 4000) (hc : c ≤ 6) (hw : Dj (w : Int)) : Cn (Bq (Bq (t : Int) (c : Int)) (w : Int)) 8 = ((t * (c * wB (w : Int)) : Nat) : Int) := by
 obtain ⟨h1, h2⟩ := Bxv hw
 have e1 : (t : Int) * (c : Int) = ((t * c : Nat) : Int) := by simp
 have b1 : t * c ≤ 4000 * 6 := Nat.mul_le_mul ht hc
 have b2 : t * c * w ≤ 24000 * 24 := Nat.mul_le_mul b1 h2
 rw [Ik (a := (t : Int)) (by rw [e1]; omega) (by rw [e1]; omega), e1, Ik (by rw [← Int.natCast_mul]; omega) (by rw [← Int.natCast_mul]; omega), ← Int.natCast_mul, show (8 : Int) = ((8 : Nat) : Int) from rfl, Bx5 (by omega)]
 congr 1
 generalize wB (w : Int) = W at *
 subst h1
 rw [Nat.mul_left_comm, Nat.mul_div_cancel_left _ (by omega), Nat.mul_assoc]
end Go.Pl
set_option linter.unusedVariables false
set_option linter.unusedSimpArgs false
namespace Go.Pl
open Go Go.Lv
end Go.Pl
set_option linter.unusedVariables false
set_option linter.unusedSimpArgs false
namespace Go.Pl
open Go Go.Lv
end Go.Pl
set_option linter.unusedVariables false
set_option linter.unusedSimpArgs false
namespace Go.Pl
open Go Go.Lv
theorem Bgt {seg p : List UInt8} (hs : seg.length = 8) (hp : p.length ≤ 64) : Adx seg p = some (seg == leB (Ac4 p).toNat 8, 0) := by
 rw [Adx, Bo1 p hp, Aa]
 simp only
 rw [if_neg (by rw [Am, Am, Ac, Ac, Ro, hs]; simp), Fc, Aa]
end Go.Pl
set_option linter.unusedVariables false
set_option linter.unusedSimpArgs false
namespace Go.Pl
open Go Go.Lv
def Awx (b : List UInt8) : List Int := framesL (longN (f3 (hdr b))) (f4 (hdr b))
end Go.Pl
set_option linter.unusedVariables false
set_option linter.unusedSimpArgs false
namespace Go.Pl
open Go Go.Lv
end Go.Pl
set_option linter.unusedVariables false
set_option linter.unusedSimpArgs false
namespace Go.Pl
open Go Go.Lv
end Go.Pl
set_option linter.unusedVariables false
set_option linter.unusedSimpArgs false
namespace Go.Pl
open Go Go.Lv
theorem Bfo {c r n : Nat} (h : fitB c r n = true) : 1 ≤ (framesL (longN r) n).length ∧ (framesL (longN r) n).length ≤ 1000 := by
 simp only [fitB, decide_eq_true_eq] at h
 rw [Axp]; exact ⟨Nat.le_add_left _ _, h.2⟩
end Go.Pl
set_option linter.unusedVariables false
set_option linter.unusedSimpArgs false
namespace Go.Pl
open Go Go.Lv
theorem Bnb (g : Nat) : ∀ K : Nat, (List.replicate K (g : Int)).sum = ((K * g : Nat) : Int)
 | 0 => by simp
 | K + 1 => by
  rw [List.replicate_succ, List.sum_cons, Bnb g K, Nat.succ_mul]; omega
theorem Bjb {g n : Nat} (hn : 1 ≤ n) : (framesL g n).sum = (n : Int) := by
 have h := Nat.div_mul_le_self (n - 1) g
 rw [framesL, List.sum_append, Bnb]
 simp only [List.sum_cons, List.sum_nil]
 omega
theorem Bl5 : ∀ {l : List Int}, (∀ x ∈ l, 0 ≤ x) → 0 ≤ l.sum
 | [], _ => by simp
 | x :: l, h => by
  have h1 := h x List.mem_cons_self
  have h2 := Bl5 (l := l) fun y hy => h y (List.mem_cons_of_mem _ hy)
  rw [List.sum_cons]; omega
theorem Av6 {l : List Int} (h : ∀ x ∈ l, 0 ≤ x) (i : Nat) : 0 ≤ (l.take i).sum ∧ (l.take i).sum ≤ l.sum := by
 have h1 := Bl5 (l := l.take i) fun x hx => h x (List.mem_of_mem_take hx)
 have h2 := Bl5 (l := l.drop i) fun x hx => h x (List.mem_of_mem_drop hx)
 have := Bpa l i
 omega
def Aqj (c w : Nat) (fr : List Int) (k : Nat) : Int := (((fr.take k).sum.toNat * (c * wB (w : Int)) : Nat) : Int)
section
variable {f c w r n : Nat} (h1 : shapeB f c w r n = true) (h2 : fitB c r n = true)
include h1 h2
theorem Ao3 : (∀ x ∈ framesL (longN r) n, 0 ≤ x) ∧ (framesL (longN r) n).sum = (n : Int) ∧ n ≤ 4000 := by
 obtain ⟨hc, hw, hr, hn, _⟩ := Av0 h1
 have hfit : n ≤ 4000 / c := by simp only [fitB, decide_eq_true_eq] at h2; exact h2.1
 have hn4 : n ≤ 4000 := by have := Nat.div_le_self 4000 c; omega
 refine ⟨fun x hx => ?_, Bjb hn, hn4⟩
 obtain ⟨m, rfl, _⟩ := Auw (Ajy r) hn hx
 omega
end
end Go.Pl
set_option linter.unusedVariables false
set_option linter.unusedSimpArgs false
namespace Go.Pl
open Go Go.Lv
theorem Bys (p : List UInt8) (N a k : Nat) : 0 ≤ (rcS p N a k).2.2 := by
 unfold rcS
 repeat' split
 all_goals simp
theorem Bw8 (p : List UInt8) (N a k l : Nat) : 0 ≤ (dgS p N a k l).2.2 := by
 have h := Bys p N (a + 1) l
 unfold dgS
 repeat' split
 all_goals simp [h]
theorem Bm2 (ch : Nat) (p : List UInt8) (N : Nat) : ∀ (j a : Nat) (out : List UInt32), 0 ≤ (Zw ch p N j a out).2.2
 | 0, a, out => by rw [Zw]; exact Int.le_refl _
 | j + 1, a, out => by
  rw [Zw]
  split
  ·exact Bw8 ..
  ·exact Bm2 ch p N j _ _
theorem Bqk (b : List UInt8) : 0 ≤ Xp b := by
 unfold Xp
 repeat' split
 all_goals simp
theorem Bey (a : List Int32) (b : Int) : ∀ (q : Nat) (i e : Int), Be a b q i = some e → 0 ≤ e
 | 0, _, _, h => by rw [Be] at h; cases h
 | q + 1, i, e, h => by
  rw [Be, Db] at h
  split at h
  ·cases hg : Ak a i with
   | none => rw [hg] at h; cases h
   | some g =>
    rw [hg, Aa] at h
    split at h
    ·cases h; decide
    ·rw [Aa] at h
     split at h
     ·cases h; decide
     ·exact Bey a b q _ e h
  ·cases h; decide
theorem Bkz {bits : Int} {a : List Int32} {e : Int} (h : Bg bits a = some e) : 0 ≤ e := by
 rw [Bg, Gd] at h
 cases hg : Kw bits with
 | none => rw [hg] at h; cases h
 | some g =>
  rw [hg, Aa] at h
  split at h
  ·cases h; decide
  ·split at h
   ·cases h; decide
   ·exact Bey a _ _ _ e h
theorem Bet {bits : Int} {ch n : Nat} {t : List Int32} {b : List UInt8} (hb : Dj bits) (ht : t.length = 16) (h1 : 1 ≤ ch) (h6 : ch ≤ 6) (n1 : 1 ≤ n) (n2 : n ≤ 4000 / ch) {l : List Int32} {e : Int}
  (h : It (ch : Int) bits t (n : Int) b = some (l, e)) : 0 ≤ e := by
 have hn : n * ch ≤ 4000 := by
  have := Nat.mul_le_mul_right ch n2
  have h2 := Nat.div_mul_le_self 4000 ch
  omega
 have hq4 := Bm6 h1 h6
 generalize 4000 / ch = mm at *
 have hh := Aw0 bits
 have hasked : Jq (ch : Int) bits (n : Int) = some 0 := by
  rw [Jq, Ty, if_neg (by simp [Af, As]; omega), Bcb hb, Aa, if_neg (by rw [Ba]; simp; omega), Aa, if_neg (by simp [Am, Af]; omega), Cp (by rw [Am]; simp; omega), Aa, hq4, if_neg (by rw [As]; simp; omega)]
 rw [It, Me, hasked, Aa, if_neg (by rw [Am]; simp), Ba5, Aa] at h
 by_cases hs : Xp b ≠ 0
 ·rw [if_pos (by rw [Am]; simpa using hs)] at h
  simp only [Aa] at h
  cases h
  exact Bqk b
 have hs0 : Xp b = 0 := by simpa using hs
 have hlen := Bif hs0
 have e4 : Al (Ac b) 4 = ((b.length - 4 : Nat) : Int) := by rw [Ac, Bh (by omega) (by omega)]; omega
 rw [if_neg (by rw [Am, hs0]; simp), e4, Dh (by omega) (by omega), Aa, show ((b.length - 4 : Nat) : Int).toNat = b.length - 4 from rfl] at h
 have hpl : (b.take (b.length - 4)).length = b.length - 4 := by simp
 generalize b.take (b.length - 4) = p at *
 have hr := Bm7 (N := 8 * p.length) (p := p) rfl (by omega) h1 h6 hn
 have hV := Bm2 ch p (8 * p.length) (n * ch) 0 []
 have hat := Ay1 (ch := ch) (p := p) (N := 8 * p.length) (n * ch) 0 [] (by omega)
 rw [hr, Aa] at h
 generalize Zw ch p (8 * p.length) (n * ch) 0 [] = V at *
 obtain ⟨v, at', er⟩ := V
 simp only at *
 by_cases he : er ≠ 0
 ·rw [if_pos he] at h
  simp only at h
  rw [Fm, Dp, if_pos (by rw [Am]; simpa using he)] at h
  cases h
  exact hV
 have he0 : er = 0 := by simpa using he
 have hvl := hat.2.2 he0
 simp only [List.length_nil, Nat.zero_add] at hvl
 rw [if_neg he] at h
 simp only at h
 rw [Fm, Dp] at h
 split at h
 ·cases h
  decide
 ·rw [if_neg (by decide)] at h
  have hm : v.length % ch = 0 := by rw [hvl]; exact Nat.mul_mod_left n ch
  obtain ⟨l', e', g1, g2, g3, g4, g5⟩ := Avn (v := v) hb ht h1 h6 (by omega) hm
  rw [g1, Aa, g2, Aa] at h
  have := Bkz g4
  by_cases hl : e' ≠ 0
  ·rw [if_pos hl] at h; cases h; exact this
  ·rw [if_neg hl] at h; cases h; decide
end Go.Pl
set_option linter.unusedVariables false
set_option linter.unusedSimpArgs false
namespace Go.Pl
open Go Go.Lv
def shI (f c w r n : Int) : Bool := decide ((f = 1 ∨ f = 2) ∧ (1 ≤ c ∧ c ≤ 6) ∧ (w = 8 ∨ w = 16 ∨ w = 24) ∧ (1 ≤ r ∧ r ≤ 1048576) ∧ 1 ≤ n)
theorem Btg (f c w r n : Int) : Ql f c w r n = some (shI f c w r n) := by
 have e2 : Ml f c w r n = some (decide ((f = 1 ∨ f = 2) ∧ (1 ≤ c ∧ c ≤ 6) ∧ (1 ≤ r ∧ r ≤ 1048576) ∧ 1 ≤ n)) := by
  rw [Ml, Agj]
  congr 1
  rw [Bool.eq_iff_iff]
  simp only [Ba, As, An3, Bool.and_eq_true, Bool.or_eq_true, beq_iff_eq, decide_eq_true_eq]
  omega
 have g : ∀ k : Int, geq w k = decide (w = k) := fun k => by rw [Ba, Bool.eq_iff_iff]; simp
 rw [Ql, Zz, e2, g, g, g, shI]
 by_cases h8 : w = 8
 ·subst h8; simp
 ·by_cases h16 : w = 16
  ·subst h16; simp
  ·by_cases h24 : w = 24
   ·subst h24; simp
   ·simp [h8, h16, h24]
theorem Buk (f c w r n : Int) : Fs f c w r n = some (shI f c w r n) := by
 rw [Fs, shI]
 simp only [Ba, Dt, An3, Bool.and_eq_true, Bool.or_eq_true, beq_iff_eq, decide_eq_true_eq, Bool.false_and]
 split
 ·rename_i h
  congr 1
  rw [Bool.eq_iff_iff]
  simp only [Bool.and_eq_true, Bool.or_eq_true, beq_iff_eq, decide_eq_true_eq]
  omega
 ·rename_i h
  congr 1
  symm
  rw [decide_eq_false_iff_not]
  omega
structure HdI (f c w r n : Int) (F C W R N : Nat) : Prop where
 ef : f = F
 ec : c = C
 ew : w = W
 er : r = R
 en : n = N
 shape : shapeB F C W R N = true
 fit : fitB C R N = true
theorem Bp4 (f c w r n : Int) : (∃ F C W R N : Nat, HdI f c w r n F C W R N) ∨ (Hf f c w r n = some 8 ∧ Cx f c w r n = some ([], 8)) := by
 by_cases h : shI f c w r n = true
 ·have h' := h
  simp only [shI, decide_eq_true_eq] at h'
  obtain ⟨F, rfl⟩ := Int.eq_ofNat_of_zero_le (show 0 ≤ f by omega)
  obtain ⟨C, rfl⟩ := Int.eq_ofNat_of_zero_le (show 0 ≤ c by omega)
  obtain ⟨W, rfl⟩ := Int.eq_ofNat_of_zero_le (show 0 ≤ w by omega)
  obtain ⟨R, rfl⟩ := Int.eq_ofNat_of_zero_le (show 0 ≤ r by omega)
  obtain ⟨N, rfl⟩ := Int.eq_ofNat_of_zero_le (show 0 ≤ n by omega)
  have hs : shapeB F C W R N = true := by simp only [shapeB, decide_eq_true_eq]; omega
  by_cases hf : fitB C R N = true
  ·exact .inl ⟨F, C, W, R, N, rfl, rfl, rfl, rfl, rfl, hs, hf⟩
  ·have hf' : fitB C R N = false := by simpa using hf
   refine .inr ⟨?_, ?_⟩
   ·rw [Hf, Auf, Aa, hs, if_neg (by simp), Azt hs, Aa, hf']; rfl
   ·rw [Cx, Aad, Art, Aa, hs, if_neg (by simp), Awv hs, Aa, hf']; rfl
 ·have h' : shI f c w r n = false := by simpa using h
  refine .inr ⟨?_, ?_⟩
  ·rw [Hf, Buk, Aa, h']; rfl
  ·rw [Cx, Aad, Btg, Aa, h']; rfl
theorem HdI.check {f c w r n : Int} {F C W R N : Nat} (h : HdI f c w r n F C W R N) : Hf f c w r n = some 0 := by
 obtain ⟨rfl, rfl, rfl, rfl, rfl, hs, hf⟩ := h
 rw [Hf, Auf, Aa, hs, if_neg (by simp), Azt hs, Aa, hf]; rfl
theorem HdI.Awx {f c w r n : Int} {F C W R N : Nat} (h : HdI f c w r n F C W R N) : Cx f c w r n = some (framesL (longN R) N, 0) := by
 obtain ⟨rfl, rfl, rfl, rfl, rfl, hs, hf⟩ := h
 exact Bj5 hs hf
theorem HdI.num {f c w r n : Int} {F C W R N : Nat} (h : HdI f c w r n F C W R N) : (F = 1 ∨ F = 2) ∧ (1 ≤ C ∧ C ≤ 6) ∧ (W = 8 ∨ W = 16 ∨ W = 24) ∧ (1 ≤ R ∧ R ≤ 1048576) ∧ 1 ≤ N ∧ N ≤ 4000 / C ∧ N ≤ 4000 ∧ (N - 1) / longN R + 1 ≤ 1000 := by
 obtain ⟨rfl, rfl, rfl, rfl, rfl, hs, hf⟩ := h
 simp only [shapeB, decide_eq_true_eq] at hs
 simp only [fitB, decide_eq_true_eq] at hf
 have hd : 4000 / C ≤ 4000 := Nat.div_le_self _ _
 omega
theorem HdI.Bui {f c w r n : Int} {F C W R N : Nat} (h : HdI f c w r n F C W R N) : Dl f c w r n = some (framesL (longN R) N) := by
 have hn := h.num
 obtain ⟨rfl, rfl, rfl, rfl, rfl, hs, hf⟩ := h
 rw [Dl, Ay9 (by omega) (by omega) (by omega)]; rfl
end Go.Pl
set_option linter.unusedVariables false
set_option linter.unusedSimpArgs false
namespace Go.Pl
open Go Go.Lv
section
variable {f c w r n : Nat} (h1 : shapeB f c w r n = true) (h2 : fitB c r n = true)
include h1 h2
theorem Bd9 (k : Nat) (hk : k ≤ (framesL (longN r) n).length) : ∀ (j i q : Nat), i + j = k → j < q → Hl (k : Int) (f : Int) (c : Int) (w : Int) (r : Int) (n : Int) (framesL (longN r) n) q (((framesL (longN r) n).take i).sum) (i : Int) = some (Aqj c w (framesL (longN r) n) k)
 | 0, i, q + 1, hi, _ => by
  obtain ⟨hc, hw, hr, hn, _⟩ := Av0 h1
  obtain ⟨g1, g2, g3⟩ := Ao3 h1 h2
  have b := Av6 g1 i
  obtain rfl : i = k := by omega
  have hb : ((framesL (longN r) n).take i).sum.toNat * (c * wB (w : Int)) ≤ 4000 * (6 * 3) := Nat.mul_le_mul (by omega) (Nat.mul_le_mul hc.2 (Bmw (w : Int)).2)
  rw [Hl, Qh, if_neg (by rw [Af]; simp), Yf, Ahl, Jo, Aa]
  simp only
  rw [Aak, Byv hc.2 hw, Aa, Aqj]
  have e : ((framesL (longN r) n).take i).sum = ((((framesL (longN r) n).take i).sum.toNat : Nat) : Int) := by omega
  rw [e, Ik (by rw [← Int.natCast_mul]; omega) (by rw [← Int.natCast_mul]; omega), ← Int.natCast_mul]; rfl
 | j + 1, i, q + 1, hi, hq => by
  obtain ⟨g1, g2, g3⟩ := Ao3 h1 h2
  have hK := Bfo h2
  have hlt : i < (framesL (longN r) n).length := by omega
  have b1 := Av6 g1 i
  have b2 := Av6 g1 (i + 1)
  have e := Atr hlt
  have ih := Bd9 k hk j (i + 1) q (by omega) (by omega)
  rw [e] at ih
  rw [Hl, Qh, if_pos (by rw [Af]; simp; omega), Cq hlt, Aa, Aa, Ah (by omega) (by omega), Ah (by omega) (by omega)]
  exact ih
theorem Btu (k : Nat) (hk : k ≤ (framesL (longN r) n).length) : Pz (f : Int) (c : Int) (w : Int) (r : Int) (n : Int) (k : Int) = some (Aqj c w (framesL (longN r) n) k) := by
 have hK := Bfo h2
 obtain ⟨g1, g2, g3⟩ := Ao3 h1 h2
 obtain ⟨hc, hw, hr, hn, _⟩ := Av0 h1
 have h := Bd9 h1 h2 k hk k 0 Au (by omega) (by have := Aq; omega)
 rw [List.take_zero, List.sum_nil] at h
 rw [Pz, Zd, Dl, Ay9 hr.2 hn g3, Aa, Aa]
 exact h
theorem Bkw {i : Nat} (hlt : i < (framesL (longN r) n).length) : Ae (Aqj c w (framesL (longN r) n) i) (Cn (Bq (Bq ((framesL (longN r) n)[i]) (c : Int)) (w : Int)) 8) = Aqj c w (framesL (longN r) n) (i + 1) := by
 obtain ⟨hc, hw, hr, hn, _⟩ := Av0 h1
 obtain ⟨g1, g2, g3⟩ := Ao3 h1 h2
 have b1 := Av6 g1 i
 have b2 := Av6 g1 (i + 1)
 have e := Atr hlt
 have h0 := g1 _ (List.getElem_mem hlt)
 have e2 : (framesL (longN r) n)[i] = (((framesL (longN r) n)[i].toNat : Nat) : Int) := by omega
 have hb : ((framesL (longN r) n).take (i + 1)).sum.toNat * (c * wB (w : Int)) ≤ 4000 * (6 * 3) := Nat.mul_le_mul (by omega) (Nat.mul_le_mul hc.2 (Bmw (w : Int)).2)
 rw [e2, Bxy (by omega) hc.2 hw, Aqj, Aqj]
 have e3 : ((framesL (longN r) n).take (i + 1)).sum.toNat = ((framesL (longN r) n).take i).sum.toNat + (framesL (longN r) n)[i].toNat := by omega
 rw [e3, Nat.add_mul] at hb ⊢
 rw [Ah (by omega) (by omega)]
 omega
theorem Bdt (a : Nat) (ha : a ≤ (framesL (longN r) n).length) (o p : LB) (m : LI) (a' : Int) (N : LB) (u : Bool) (v : Int) : ∀ (j i q : Nat), i + j = a → j < q →
  Ot ((framesL (longN r) n).take a) o p (f : Int) (c : Int) (w : Int) (r : Int) (n : Int) m a' N u v q (Aqj c w (framesL (longN r) n) i) (i : Int) = some (gle (Ac N) (Aqj c w (framesL (longN r) n) a))
 | 0, i, q + 1, hi, _ => by
  obtain rfl : i = a := by omega
  rw [Ot, Abq, if_neg (by rw [Af, Ac, List.length_take]; simp; omega), Aih, Ap6]
 | j + 1, i, q + 1, hi, hq => by
  have hK := Bfo h2
  have hlt : i < (framesL (longN r) n).length := by omega
  have hlt2 : i < ((framesL (longN r) n).take a).length := by rw [List.length_take]; omega
  have ih := Bdt a ha o p m a' N u v j (i + 1) q (by omega) (by omega)
  rw [Ot, Abq, if_pos (by rw [Af, Ac]; simp; omega), Cq hlt2, Aa, List.getElem_take, Bkw h1 h2 hlt, Ah (by omega) (by omega)]
  exact ih
end
end Go.Pl
set_option linter.unusedVariables false
set_option linter.unusedSimpArgs false
namespace Go.Pl
open Go Go.Lv
theorem Ayv {α : Type} (l : List α) : geq (Ac l) 0 = decide (l = []) := by
 cases l with
 | nil => rfl
 | cons x l => rw [Ba, Ac, List.length_cons, decide_eq_false (by simp), beq_eq_false_iff_ne]; omega
theorem Bgh {α : Type} (l : List α) : Du (Ac l) 0 = decide (l ≠ []) := by
 cases l with
 | nil => rfl
 | cons x l => rw [As, Ac, List.length_cons, decide_eq_true (by simp)]; simp
inductive FitD (o : LB) (f c w r n : Int) (g : LI) (a : Int) (x : LB) : Prop
 | new : f = 0 → c = 0 → w = 0 → r = 0 → n = 0 → g = [] → a = 0 → x = [] → FitD o f c w r n g a x
 | head (F C W R N : Nat) : HdI f c w r n F C W R N → (o == ([] : LB)) = decide (F = 1) → g = [] → a = 0 → x = [] → FitD o f c w r n g a x
 | tab (F C W R N A : Nat) : HdI f c w r n F C W R N → (o == ([] : LB)) = decide (F = 1) → tabB g = true → g.length = (framesL (longN R) N).length → a = A → A ≤ g.length → FitD o f c w r n g a x
theorem Blh (f c w r n : Int) (o : LB) : Mv f c w r n o = He f c w r n o := rfl
theorem Bks (o p : LB) (f c w r n : Int) (g : LI) (a : Int) (x : LB) (u : Bool) (v : Int) :
  (Zx o p f c w r n g a x u v = some false ∧ Mw o p f c w r n g a x u v = some false) ∨
  (Zx o p f c w r n g a x u v = some true ∧ Mw o p f c w r n g a x u v = Bw o p f c w r n g a x u v ∧ FitD o f c w r n g a x) := by
 rw [Zx, Ah9, Mw, Vt]
 by_cases hz : f = 0 ∧ c = 0 ∧ w = 0 ∧ r = 0 ∧ n = 0
 ·obtain ⟨rfl, rfl, rfl, rfl, rfl⟩ := hz
  rw [if_pos (by decide), if_pos (by decide), Ayv, Ayv, Bgh, Bgh]
  by_cases h : g = [] ∧ a = 0 ∧ x = []
  ·obtain ⟨rfl, rfl, rfl⟩ := h
   exact .inr ⟨rfl, by rw [if_neg (by decide)], .new rfl rfl rfl rfl rfl rfl rfl rfl⟩
  ·refine .inl ⟨?_, ?_⟩
   ·congr 1
    rw [Bool.eq_false_iff]
    intro e
    simp only [Bool.and_eq_true, decide_eq_true_eq, Ba, beq_iff_eq] at e
    exact h ⟨e.1.1, e.1.2, e.2⟩
   ·rw [if_pos]
    simp only [Bool.or_eq_true, decide_eq_true_eq, Am, bne_iff_ne]
    by_cases e1 : g = []
    ·by_cases e2 : a = 0
     ·exact .inr fun e3 => h ⟨e1, e2, e3⟩
     ·exact .inl (.inr e2)
    ·exact .inl (.inl e1)
 ·have hz2 : ¬ (((geq f 0) && ((geq c 0) && ((geq w 0) && ((geq r 0) && ((geq n 0) && true))))) = true) := by
   simp only [Bool.and_eq_true, Ba, beq_iff_eq, and_true]
   exact hz
  rw [if_neg hz2, if_neg hz2]
  rcases Bp4 f c w r n with ⟨F, C, W, R, N, h⟩ | ⟨e1, e2⟩
  ·rw [h.Awx, h.check, Aa, Aa, Blh]
   simp only
   rw [if_neg (by decide), if_neg (by decide), He]
   have hf : geq f 1 = decide (F = 1) := by rw [h.ef, Ba, Bool.eq_iff_iff]; simp; omega
   rw [hf]
   by_cases hp : (o == ([] : LB)) = decide (F = 1)
   ·rw [if_neg (by rw [hp]; simp), Aa, Aa, if_neg (by decide), if_neg (by decide), Aic, Aif, Wv, Wf, Ayv, Ayv, Bgh]
    by_cases hg : g = []
    ·subst hg
     rw [if_pos (by simp), if_pos (by simp)]
     by_cases h' : a = 0 ∧ x = []
     ·obtain ⟨rfl, rfl⟩ := h'
      exact .inr ⟨rfl, by rw [if_neg (by decide)], .head F C W R N h hp rfl rfl rfl⟩
     ·refine .inl ⟨?_, ?_⟩
      ·congr 1
       rw [Bool.eq_false_iff]
       intro e
       simp only [Bool.and_eq_true, decide_eq_true_eq, Ba, beq_iff_eq] at e
       exact h' e
      ·rw [if_pos]
       simp only [Bool.or_eq_true, decide_eq_true_eq, Am, bne_iff_ne]
       by_cases e2 : a = 0
       ·exact .inr fun e3 => h' ⟨e2, e3⟩
       ·exact .inl e2
    ·rw [if_neg (by simpa using hg), if_neg (by simpa using hg), Ash, Ati, Aa, Aa]
     by_cases ht : tabB g = true
     ·rw [if_pos ht, h.Bui]
      simp only [Aa]
      by_cases hl : g.length = (framesL (longN R) N).length ∧ 0 ≤ a ∧ a ≤ g.length
      ·obtain ⟨hl, ha0, ha1⟩ := hl
       obtain ⟨A, rfl⟩ := Int.eq_ofNat_of_zero_le ha0
       have hA : A ≤ (framesL (longN R) N).length := by omega
       rw [if_neg (by simp [Am, Af, As, Ac]; omega), if_neg (by decide), if_neg (by simp [Am, Af, As, Ac]; omega), Dh (by omega) (by omega), Aa, Aia]
       have hh := h
       clear hf
       obtain ⟨rfl, rfl, rfl, rfl, rfl, hs, hf⟩ := hh
       have hlp := Bdt hs hf A hA o p g (A : Int) x u v A 0 Au (by omega) (by have := Aq; have := Bfo hf; omega)
       have h0 : Aqj C W (framesL (longN R) N) 0 = 0 := by rw [Aqj, List.take_zero, List.sum_nil]; simp
       rw [h0, show ((0 : Nat) : Int) = 0 from rfl] at hlp
       rw [show ((A : Int)).toNat = A from rfl, hlp, Btu hs hf A hA, Aa]
       by_cases hx : (x.length : Int) ≤ Aqj C W (framesL (longN R) N) A
       ·refine .inr ⟨?_, ?_, .tab F C W R N A h hp ht hl rfl (by omega)⟩
        ·rw [An3, Ac, decide_eq_true hx]
        ·rw [if_neg (by rw [As, Ac]; simp; omega)]
       ·refine .inl ⟨?_, ?_⟩
        ·rw [An3, Ac, decide_eq_false hx]
        ·rw [if_pos (by rw [As, Ac]; simp; omega)]
      ·refine .inl ⟨?_, ?_⟩
       ·rw [if_pos (by simp [Am, Af, As, Ac]; omega)]
       ·rw [if_neg (by decide), if_pos (by simp [Am, Af, As, Ac]; omega)]
     ·refine .inl ⟨?_, ?_⟩
      ·rw [if_neg ht, if_pos (by simp [Am])]
      ·rw [if_neg ht, if_pos (by decide), if_pos (by simp)]
   ·rw [if_pos (by simpa using hp), Aa, Aa, if_pos (by decide), if_pos (by decide)]
    exact .inl ⟨rfl, rfl⟩
  ·rw [e1, e2, Aa, Aa]
   simp only
   rw [if_pos (by decide), if_pos (by decide)]
   exact .inl ⟨rfl, rfl⟩
end Go.Pl
set_option linter.unusedVariables false
set_option linter.unusedSimpArgs false
namespace Go.Pl
open Go Go.Lv
theorem Bro (b : List UInt8) (n : Int) : 0 ≤ (Ap9 b n).2 := by
 unfold Ap9
 repeat' split
 all_goals simp
theorem Brb (b : List UInt8) : 0 ≤ (Alr b).2 := by
 unfold Alr Bbs
 repeat' split
 all_goals first | exact Bro _ _ | simp
theorem Bpm (b : List UInt8) : 0 ≤ (Qu b).2 := by
 unfold Qu
 repeat' split
 all_goals simp
theorem Bqj (b : List UInt8) : 0 ≤ (Dz b).2 := by
 unfold Dz
 split
 ·exact Brb b
 ·exact Bpm b
theorem Bew (b : List UInt8) : ∀ (j p : Nat), 0 ≤ (Cl b j p).2
 | 0, p => by simp [Cl]
 | j + 1, p => by
  rw [Cl]
  split
  ·simp
  ·split
   ·exact Bqj _
   ·split
    ·simp
    ·split
     ·simp
     ·exact Bew b j _
theorem Beb (b : List UInt8) : 0 ≤ (Gu b).2 := by
 unfold Gu Bl3
 split
 ·simp
 ·exact Bew b _ _
theorem Bi4 (b : List UInt8) : 0 ≤ (Gz b).2.2.2.2.2 := by
 unfold Gz
 repeat' split
 all_goals simp
theorem Bi0 (b : List UInt8) (n : Nat) : 0 ≤ (Oa b n).2 := by
 unfold Oa
 repeat' split
 all_goals simp
def ID3 : List UInt8 := [73, 68, 51]
def APX : List UInt8 := [65, 80, 69, 84, 65, 71, 69, 88]
def Ao9 (b s : List UInt8) : Bool := decide (b.length < s.length) && (b == s.take b.length)
theorem Bes (b s : List UInt8) : Lq b s = some (Ao9 b s) := by
 rw [Lq, Ao9]
 by_cases h : b.length < s.length
 ·rw [if_pos (by rw [Af, Ac, Ac]; simp; omega), Ac, Dh (by omega) (by omega), Aa, decide_eq_true h, Bool.true_and]; rfl
 ·rw [if_neg (by rw [Af, Ac, Ac]; simp; omega), decide_eq_false h]; rfl
theorem Bsr (b s : List UInt8) (h : b.length < s.length) : Ia s b = some (Ao9 b s) := by
 rw [Ia, Fk, if_pos (by rw [Dt, Ac, Ac]; simp; omega), Ac, Dh (by omega) (by omega), Aa, Aa, Ao9, decide_eq_true h, Bool.true_and, Int.toNat_natCast]
 congr 1
 rw [Bool.eq_iff_iff, beq_iff_eq, beq_iff_eq]
 exact eq_comm
theorem Bdl {b s : List UInt8} (h : ¬ b.length < s.length) : Ao9 b s = false := by rw [Ao9, decide_eq_false h]; rfl
theorem Bsb (b : List UInt8) : Py b = some (Ao9 b ID3 || Ao9 b APX) := by
 obtain ⟨q, hq⟩ : ∃ q, Au = q + 3 := ⟨Au - 3, by have := Aq; omega⟩
 have l3 : Ja b (q + 1) 2 = some false := by rw [Ja, Vg, if_neg (by decide)]; rfl
 have l2 : Ja b (q + 2) 1 = some (Ao9 b APX) := by
  rw [Ja, Vg, if_pos (by decide), show Ak ([([73, 68, 51] : LB), ([65, 80, 69, 84, 65, 71, 69, 88] : LB)] : List LB) 1 = some APX from rfl, Aa, show Ae (1 : Int) 1 = 2 from rfl]
  by_cases h : b.length < APX.length
  ·rw [if_pos (by rw [Af, Ac, Ac]; simp; omega), Bsr b APX h, Aa]
   by_cases hb : Ao9 b APX = true
   ·rw [if_pos hb, hb]
   ·rw [if_neg hb, l3]; simpa using hb
  ·rw [if_neg (by rw [Af, Ac, Ac]; simp; omega), l3, Bdl h]
 rw [Py, Ah8, Aiu, hq, Ja, Vg, if_pos (by decide), show Ak ([([73, 68, 51] : LB), ([65, 80, 69, 84, 65, 71, 69, 88] : LB)] : List LB) 0 = some ID3 from rfl, Aa, show Ae (0 : Int) 1 = 1 from rfl]
 by_cases h : b.length < ID3.length
 ·rw [if_pos (by rw [Af, Ac, Ac]; simp; omega), Bsr b ID3 h, Aa]
  by_cases hb : Ao9 b ID3 = true
  ·rw [if_pos hb, hb]; rfl
  ·rw [if_neg hb, l2, Bool.eq_false_iff.2 hb]; rfl
 ·rw [if_neg (by rw [Af, Ac, Ac]; simp; omega), l2, Bdl h]; rfl
def stS (b : List UInt8) : Int × Int × Int × Int × Int × Int × Int :=
 if (Gu b).2 = 24 then (0, 0, 0, 0, 0, 0, -1) else if (Gu b).2 ≠ 0 then (0, 0, 0, 0, 0, 0, (Gu b).2) else
 if (Ao9 (hdr b) ID3 || Ao9 (hdr b) APX) = true then (0, 0, 0, 0, 0, 0, -1) else
 if (Gz (hdr b)).2.2.2.2.2 = 24 then (0, 0, 0, 0, 0, 0, -1) else ((Gu b).1 + 22, (Gz (hdr b)).1, (Gz (hdr b)).2.1, (Gz (hdr b)).2.2.1, (Gz (hdr b)).2.2.2.1, (Gz (hdr b)).2.2.2.2.1, (Gz (hdr b)).2.2.2.2.2)
theorem Azx (b : List UInt8) (hb : b.length ≤ 100000) : Kf b = some (stS b) := by
 rw [Kf, Ru, Au9 b (by omega), Aa, stS]
 have hok := Asu (b := b)
 simp only
 by_cases h1 : (Gu b).2 = 24
 ·rw [if_pos (by rw [Ba]; simpa using h1), if_pos h1]
 rw [if_neg (by rw [Ba]; simpa using h1), if_neg h1]
 by_cases h2 : (Gu b).2 ≠ 0
 ·rw [if_pos (by rw [Am]; simpa using h2), if_pos h2]
 have h0 : (Gu b).2 = 0 := by simpa using h2
 obtain ⟨k1, k2, k3⟩ := hok h0
 rw [if_neg (by rw [Am, h0]; simp), if_neg h2, Cs (by omega) (by omega), Aa, Bes, Aa, show b.drop (Gu b).1.toNat = hdr b from rfl, show ([73, 68, 51] : LB) = ID3 from rfl, show ([65, 80, 69, 84, 65, 71, 69, 88] : LB) = APX from rfl]
 by_cases h3 : Ao9 (hdr b) ID3 = true
 ·rw [if_pos h3, h3, Bool.true_or, if_pos rfl]
 rw [if_neg h3, Bes, Aa, Bool.eq_false_iff.2 h3, Bool.false_or]
 by_cases h4 : Ao9 (hdr b) APX = true
 ·rw [if_pos h4, if_pos h4]
 have hl : (hdr b).length ≤ b.length := by rw [hdr, List.length_drop]; omega
 rw [if_neg h4, if_neg h4, Se, Acl, Bip _ (by omega), Aa]
 simp only
 by_cases h5 : (Gz (hdr b)).2.2.2.2.2 = 24
 ·rw [if_pos (by rw [Ba]; simpa using h5), if_pos h5]
 ·rw [if_neg (by rw [Ba]; simpa using h5), if_neg h5, Ah (by omega) (by omega)]
end Go.Pl
set_option linter.unusedVariables false
set_option linter.unusedSimpArgs false
namespace Go.Pl
open Go Go.Lv
def Bko (g a : LB) (k p o u v : Int) (f : LI) (b : Int) (h : LB) (m : Bool) (n : Int) : Option Int :=
if (geq k 0) then
(Kc a).bind fun (al, ba) =>
if (geq ba 24) then
Df true 0
else
if (Bn ba 0) then
(Ag ba).bind fun (bx, bz) =>
Df bx bz
else
(Bc a al (Ac a)).bind fun da =>
(Py da).bind fun an =>
if an then
Df true 0
else
(Bc a al (Ac a)).bind fun db =>
(Pm db).bind fun (ae, af, aa, ag, ab, bb) =>
if (geq bb 24) then
Df true 0
else
if (Bn bb 0) then
(Ag bb).bind fun (dc, dd) =>
Df dc dd
else
(
(Bc a (Ae al 22) (Ac a)).bind fun ak =>
(
Xf g ak ae af aa ag ab b m n f h))
else
if (geq (Ac f) 0) then
if (geq k 2) then
if (By (Ac a) 8) then
Ii true 0
else
Xw g a k p o u v b m n f h
else
Ie g a k p o u v b m n f h 0
else
if (By b (Ac f)) then
(Ak f b).bind fun _ =>
(Ak f b).bind fun w =>
if (By (Ac a) w) then
Fz true 0
else
(Ack g).bind fun (ap, am) =>
if (Bn am 0) then
(Ag am).bind fun (de, df) =>
Fz de df
else
(Cx k p o u v).bind fun (ad, dg) =>
if ((Bn dg 0) || (Qq b (Ac ad))) then
(Ag 8).bind fun (dh, di) =>
Fz dh di
else
Xn w g a k p o u v b m n ap ad f h
else
if (Du (Ac a) 4000) then
(Ag 38).bind fun (dj, bf) =>
Bd ((dj == true) && ((geq bf 0) && true))
else
Xg
theorem At6 (d : Bool) (e : Int) : Df d e = Bd (d && geq e 0) := by
 rw [Df, Aev]; cases d <;> simp
theorem Baj (d : Bool) (e : Int) : Ii d e = Bd (d && geq e 0) := by
 rw [Ii, Adg]; cases d <;> simp
theorem Bkb (d : Bool) (e : Int) : Fz d e = Bd (d && geq e 0) := by
 rw [Fz, Ady]; cases d <;> simp
theorem rp4 {o p : LB} {f c w r n : Int} {g : LI} {a : Int} {x : LB} {u : Bool} {v : Int} {t1 t2 : LB} {t3 t4 t5 t6 t7 : Int} {t8 : LI} {t9 : Int} {t10 : LB} {t11 : Bool} {t12 e : Int}
  (h : cadenzaref37_take o p f c w r n g a x u v = some (t1, t2, t3, t4, t5, t6, t7, t8, t9, t10, t11, t12, e)) : Bw o p f c w r n g a x u v = some (geq e (-1)) := by
 rw [Bw, Afg, h, Aa]
theorem Azz {e : Int} (h : 0 ≤ e) : geq e (-1) = false := by rw [Ba, beq_eq_false_iff_ne]; omega
theorem Bpv (o p : LB) (c w r n : Int) (g : LI) (a : Int) (x : LB) (u : Bool) (v : Int) (hp : p.length ≤ 100000) :
  ∃ B : Bool, Bko o p 0 c w r n g a x u v = Bd B ∧ Bw o p 0 c w r n g a x u v = some B := by
 have hT : cadenzaref37_take o p 0 c w r n g a x u v = cadenzaref37_take o p 0 c w r n g a x u v := rfl
 conv at hT => rhs; rw [cadenzaref37_take, Cu, if_pos (by decide), Azx p hp, Aa, stS]
 have hfn := Beb p
 have hrn := Bi4 (hdr p)
 rw [Bko, if_pos (by decide), Ak6 p (by omega), Aa]
 have hok := Asu (b := p)
 simp only at hT ⊢
 by_cases h1 : (Gu p).2 = 24
 ·rw [if_pos h1] at hT
  simp only at hT
  rw [if_pos (by decide)] at hT
  rw [if_pos (by rw [Ba]; simpa using h1), At6]
  exact ⟨_, rfl, rp4 hT⟩
 rw [if_neg h1] at hT
 rw [if_neg (by rw [Ba]; simpa using h1)]
 by_cases h2 : (Gu p).2 ≠ 0
 ·rw [if_pos h2] at hT
  simp only at hT
  rw [if_pos (by rw [Am]; simpa using h2)] at hT
  rw [if_pos (by rw [Am]; simpa using h2), Ag, Aa]
  simp only
  rw [At6]
  exact ⟨_, rfl, (rp4 hT).trans (by rw [Azz hfn]; rfl)⟩
 have h0 : (Gu p).2 = 0 := by simpa using h2
 obtain ⟨k1, k2, k3⟩ := hok h0
 have hl : (hdr p).length = p.length - (Gu p).1.toNat := by rw [hdr, List.length_drop]
 rw [if_neg h2] at hT
 rw [if_neg (by rw [Am, h0]; simp), Cs (by omega) (by omega), Aa, Aa, show p.drop (Gu p).1.toNat = hdr p from rfl, Bsb, Aa]
 by_cases h3 : (Ao9 (hdr p) ID3 || Ao9 (hdr p) APX) = true
 ·rw [if_pos h3] at hT ⊢
  simp only at hT
  rw [if_pos (by decide)] at hT
  rw [At6]
  exact ⟨_, rfl, rp4 hT⟩
 rw [if_neg h3] at hT ⊢
 rw [Axg _ (by omega), Aa]
 by_cases h5 : (Gz (hdr p)).2.2.2.2.2 = 24
 ·rw [if_pos h5] at hT
  simp only at hT
  rw [if_pos (by decide)] at hT
  rw [if_pos (by rw [Ba]; simpa using h5), At6]
  exact ⟨_, rfl, rp4 hT⟩
 rw [if_neg h5] at hT
 rw [if_neg (by rw [Ba]; simpa using h5)]
 simp only at hT
 by_cases h6 : (Gz (hdr p)).2.2.2.2.2 ≠ 0
 ·rw [if_pos (by rw [Am]; simpa using h6)] at hT ⊢
  rw [Ag, Aa]
  simp only
  rw [At6]
  exact ⟨_, rfl, (rp4 hT).trans (by rw [Azz hrn]; rfl)⟩
 have h7 : (Gz (hdr p)).2.2.2.2.2 = 0 := by simpa using h6
 have h22 := (Bjk h7).2.1
 rw [if_neg (by rw [Am, h7]; simp), Cs (by omega) (by omega), Aa, Pw, Zk, He] at hT
 rw [if_neg (by rw [Am, h7]; simp), Ah (by omega) (by omega), Cs (by omega) (by omega), Aa, Xf, Adc, Mv]
 simp only
 by_cases h8 : ((o == ([] : LB)) != geq (Gz (hdr p)).1 1) = true
 ·rw [if_pos h8] at hT ⊢
  rw [Aa] at hT ⊢
  rw [Ag, Aa]
  simp only
  rw [At6]
  exact ⟨_, rfl, rp4 hT⟩
 ·rw [if_neg h8] at hT ⊢
  rw [Aa] at hT ⊢
  rw [Ag, Aa]
  simp only
  rw [At6]
  exact ⟨_, rfl, rp4 hT⟩
end Go.Pl
set_option linter.unusedVariables false
set_option linter.unusedSimpArgs false
namespace Go.Pl
open Go Go.Lv
section
variable {f c w r n : Int} {F C W R N : Nat} (hd : HdI f c w r n F C W R N)
include hd
theorem HdI.ne0 : ¬ (geq f 0 = true) := by
 have := hd.num
 rw [Ba, beq_iff_eq, hd.ef]; omega
theorem Bsc (o p : LB) (hp : p.length ≤ 100000) (A : Nat) (hA : A ≤ p.length) (a : Int) (x : LB) (u : Bool) (v : Int) :
  (Ie o p f c w r n a u v [] x (A : Int) = Bd (decide ((Oa (p.drop A) (framesL (longN R) N).length).2 = 24))) ∧
  Fh p f c w r n (A : Int) = some (if (Oa (p.drop A) (framesL (longN R) N).length).2 = 24 then (0, [], -1) else ((A : Int) + (4 * ((Oa (p.drop A) (framesL (longN R) N).length).1.length : Int) + 4), (Oa (p.drop A) (framesL (longN R) N).length).1, (Oa (p.drop A) (framesL (longN R) N).length).2)) ∧
  ((Oa (p.drop A) (framesL (longN R) N).length).2 = 0 → (A : Int) + (4 * ((Oa (p.drop A) (framesL (longN R) N).length).1.length : Int) + 4) ≤ p.length) := by
 have hs := Bc7 (p.drop A) (framesL (longN R) N).length (by rw [List.length_drop]; omega)
 have hr := Br4 (p.drop A) (framesL (longN R) N).length (by rw [List.length_drop]; omega)
 have hok := Bit (b := p.drop A) (n := (framesL (longN R) N).length)
 have hlen : (Oa (p.drop A) (framesL (longN R) N).length).1.length ≤ 1000 := by
  unfold Oa
  repeat' split
  all_goals simp [Ahf]
  all_goals omega
 have hfit : (Oa (p.drop A) (framesL (longN R) N).length).2 = 0 → (A : Int) + (4 * ((Oa (p.drop A) (framesL (longN R) N).length).1.length : Int) + 4) ≤ p.length := by
  intro h0
  obtain ⟨k1, k2, k3, k4, _⟩ := hok h0
  rw [k1]
  simp only [Ahf]
  rw [List.length_drop] at k4
  omega
 refine ⟨?_, ?_, hfit⟩
 ·rw [Ie, Ac8, hd.Awx, Aa]
  simp only
  rw [if_neg (by decide), Cs (by omega) (by omega), Aa, Int.toNat_natCast, Ac, hs, Aa]
  generalize Oa (p.drop A) (framesL (longN R) N).length = z at *
  obtain ⟨z1, z2⟩ := z
  simp only at *
  by_cases h1 : z2 = 24
  ·rw [if_pos (by rw [Ba]; simpa using h1), Baj, decide_eq_true h1]; rfl
  rw [if_neg (by rw [Ba]; simpa using h1), decide_eq_false h1]
  by_cases h2 : z2 ≠ 0
  ·rw [if_pos (by rw [Am]; simpa using h2), Ag, Aa]
   simp only
   rw [Baj]; rfl
  ·have h0 : z2 = 0 := by simpa using h2
   have := hfit h0
   rw [if_neg (by rw [Am, h0]; simp), Ac, Bke A z1.length (by omega) (by omega), Cs (by omega) (by omega), Aa, Baj]; rfl
 ·rw [Fh, Uv, Cs (by omega) (by omega), Aa, hd.Bui, Aa, Ac, Int.toNat_natCast, hr, Aa]
  generalize Oa (p.drop A) (framesL (longN R) N).length = z at *
  obtain ⟨z1, z2⟩ := z
  simp only at *
  rw [Uk, Adb]
  by_cases h1 : z2 = 24
  ·rw [if_pos (by rw [Ba]; simpa using h1), if_pos h1]
  ·rw [if_neg (by rw [Ba]; simpa using h1), if_neg h1, Ac, Bke A z1.length (by omega) (by omega)]
   congr 2
theorem Buv (o p : LB) (ho : o.length ≤ 64) (hp : p.length ≤ 100000) (a : Int) (x : LB) (u : Bool) (v : Int) :
  ∃ B : Bool, Bko o p f c w r n [] a x u v = Bd B ∧ Bw o p f c w r n [] a x u v = some B := by
 have hT : cadenzaref37_take o p f c w r n [] a x u v = cadenzaref37_take o p f c w r n [] a x u v := rfl
 conv at hT => rhs; rw [cadenzaref37_take, Cu, if_neg hd.ne0, Hm, Es, if_pos (by decide), Lg, Mh]
 rw [Bko, if_neg hd.ne0, if_pos (by decide)]
 have fin : ∀ A : Nat, A ≤ p.length → cadenzaref37_take o p f c w r n [] a x u v = (Fh p f c w r n (A : Int)).bind (fun (ag, ak, w1) =>
   if (Bn w1 0) then some (o, p, f, c, w, r, n, [], a, x, u, v, w1) else (Bc p ag (Ac p)).bind fun al => some (o, al, f, c, w, r, n, ak, a, x, u, v, 0)) →
   ∃ B : Bool, Ie o p f c w r n a u v [] x (A : Int) = Bd B ∧ Bw o p f c w r n [] a x u v = some B := by
  intro A hA hT
  obtain ⟨t1, t2, t3⟩ := Bsc hd o p hp A hA a x u v
  have hnn := Bi0 (p.drop A) (framesL (longN R) N).length
  rw [t2, Aa] at hT
  rw [t1]
  generalize Oa (p.drop A) (framesL (longN R) N).length = z at *
  obtain ⟨z1, z2⟩ := z
  simp only at *
  by_cases h1 : z2 = 24
  ·rw [if_pos h1] at hT
   simp only at hT
   rw [if_pos (by decide)] at hT
   exact ⟨_, rfl, (rp4 hT).trans (by rw [decide_eq_true h1]; rfl)⟩
  rw [if_neg h1] at hT
  simp only at hT
  by_cases h2 : z2 ≠ 0
  ·rw [if_pos (by rw [Am]; simpa using h2)] at hT
   exact ⟨_, rfl, (rp4 hT).trans (by rw [decide_eq_false h1, Azz hnn])⟩
  ·have h0 : z2 = 0 := by simpa using h2
   have := t3 h0
   rw [if_neg (by rw [Am, h0]; simp), Cs (by omega) (by omega), Aa] at hT
   exact ⟨_, rfl, (rp4 hT).trans (by rw [decide_eq_false h1]; rfl)⟩
 by_cases h2 : geq f 2 = true
 ·rw [if_pos h2] at hT ⊢
  by_cases h8 : p.length < 8
  ·rw [if_pos (by rw [Af, Ac]; simp; omega)] at hT ⊢
   rw [Aa] at hT
   simp only at hT
   rw [if_pos (by decide)] at hT
   rw [Baj]
   exact ⟨_, rfl, rp4 hT⟩
  ·rw [if_neg (by rw [Af, Ac]; simp; omega)] at hT ⊢
   have h8' : (p.take 8).length = 8 := by rw [List.length_take]; omega
   rw [Dh (by omega) (by omega), Aa, Bd8 o ho, Aa] at hT
   rw [Xw, Adm, Dh (by omega) (by omega), Aa, show (8 : Int).toNat = 8 from rfl, Bgt h8' ho, Aa]
   rw [show (8 : Int).toNat = 8 from rfl] at hT
   simp only
   rw [Adj, Aeb, if_neg (by decide)]
   by_cases he : (p.take 8 == leB (Ac4 o).toNat 8) = true
   ·rw [if_neg (by rw [bne, he]; decide)] at hT
    rw [if_neg (by rw [he]; decide)]
    exact fin 8 (by omega) hT
   ·have he' : (p.take 8 == leB (Ac4 o).toNat 8) = false := by simpa using he
    rw [if_pos (by rw [bne, he']; decide), Aa] at hT
    simp only at hT
    rw [if_pos (by decide)] at hT
    rw [if_pos (by rw [he']; decide), Ag, Aa]
    simp only
    rw [Baj]
    exact ⟨_, rfl, rp4 hT⟩
 ·rw [if_neg h2] at hT ⊢
  exact fin 0 (by omega) hT
end
end Go.Pl
set_option linter.unusedVariables false
set_option linter.unusedSimpArgs false
namespace Go.Pl
open Go Go.Lv
theorem Bpb {f c w r n : Int} {F C W R N : Nat} (hd : HdI f c w r n F C W R N) (o p : LB) (ho : o.length ≤ 64) (hp : p.length ≤ 100000) (g : LI) (hg : tabB g = true) (hl : g.length = (framesL (longN R) N).length) (A : Nat) (hA : A ≤ g.length) (x : LB) (hx : x.length ≤ 14000000) (u : Bool) (v : Int) :
  ∃ B : Bool, Bko o p f c w r n g (A : Int) x u v = Bd B ∧ Bw o p f c w r n g (A : Int) x u v = some B := by
 have hc := hd.ec
 subst hc
 have hg' := hg
 rw [tabB, Bool.and_eq_true, decide_eq_true_eq, Atb g 100000 (by omega)] at hg'
 obtain ⟨⟨g1, g2⟩, g5, g6⟩ := hg'
 have hT : cadenzaref37_take o p f (C : Int) w r n g (A : Int) x u v = cadenzaref37_take o p f (C : Int) w r n g (A : Int) x u v := rfl
 conv at hT => rhs; rw [cadenzaref37_take, Cu, if_neg hd.ne0, Hm, Es, if_neg (by rw [Ba, Ac]; simp; intro e; subst e; simp at g1)]
 rw [Bko, if_neg hd.ne0, if_neg (by rw [Ba, Ac]; simp; intro e; subst e; simp at g1)]
 by_cases hA2 : A = g.length
 ·subst hA2
  rw [if_pos (by rw [Ba, Ac]; simp)] at hT
  rw [if_neg (by rw [Af, Ac]; simp)]
  by_cases h4 : 4000 < p.length
  ·rw [if_pos (by rw [As, Ac]; simp; omega)] at hT ⊢
   rw [Ag, Aa]
   simp only
   exact ⟨_, rfl, rp4 hT⟩
  ·rw [if_neg (by rw [As, Ac]; simp; omega)] at hT ⊢
   rw [Xg, Ad2]
   exact ⟨_, rfl, rp4 hT⟩
 ·have hlt : A < g.length := by omega
  have h5 := g5 g[A] (List.getElem_mem hlt)
  have hsum := Bfw g5 g[A] (List.getElem_mem hlt)
  rw [if_neg (by rw [Ba, Ac]; simp; omega), Lp, Ls, Cq hlt, Aa] at hT
  rw [if_pos (by rw [Af, Ac]; simp; omega), Cq hlt, Aa, Aa]
  by_cases hw : (p.length : Int) < g[A]
  ·rw [if_pos (by rw [Af, Ac]; simpa using hw)] at hT ⊢
   rw [Aa] at hT
   simp only at hT
   rw [if_pos (by decide)] at hT
   rw [Bkb]
   exact ⟨_, rfl, rp4 hT⟩
  rw [if_neg (by rw [Af, Ac]; simpa using hw)] at hT ⊢
  have hnum := hd.num
  have hlt2 : A < (framesL (longN R) N).length := by omega
  obtain ⟨m, hm, m1, m2⟩ := Auw (Ajy R) hnum.2.2.2.2.1 (List.getElem_mem hlt2)
  have hb : Dj w := by rw [hd.ew]; unfold Dj; omega
  obtain ⟨xs, e, d1, d2, d3, d4⟩ := Ayd (bits := w) (ch := C) (n := m) (t := Aru o) (p.take g[A].toNat) hb (Ao4 o) hnum.2.1.1 hnum.2.1.2 m1 (by omega)
  have hnn := Bet hb (Ao4 o) hnum.2.1.1 hnum.2.1.2 m1 (by omega) d2
  rw [Bd5 o ho, Aa]
  simp only
  rw [if_neg (by decide), hd.Awx, Aa]
  simp only
  rw [if_neg (by simp [Am, Dt, Ac]; omega), Xn, Adk, Cq hlt2, Aa, Dh (by omega) (by omega), Aa, Aa, Aa9, Aa]
  simp only
  rw [hm, d1, Aa]
  simp only
  rw [Bir o ho, Aa] at hT
  simp only at hT
  rw [Dh (by omega) (by omega), Aa, Jo, Aa] at hT
  simp only at hT
  rw [hd.Bui, Aa, Cq hlt2, Aa, Aa, hm] at hT
  rw [d2, Aa] at hT
  simp only at hT
  rw [Lw, Un] at hT
  rw [Ac7, Xj]
  by_cases he : e ≠ 0
  ·rw [if_pos (by rw [Am]; simpa using he)] at hT ⊢
   rw [Aa] at hT
   simp only at hT
   rw [if_pos (by rw [Am]; simpa using he)] at hT
   rw [Ag, Aa]
   simp only
   rw [Bkb]
   exact ⟨_, rfl, (rp4 hT).trans (by rw [Azz hnn]; rfl)⟩
  ·have he0 : e = 0 := by simpa using he
   obtain ⟨k1, k2, k3⟩ := d3 he0
   have hbl := Aks w xs
   rw [if_neg (by rw [Am, he0]; simp)] at hT ⊢
   rw [Bdm hb k2 k1, Aa, Aa] at hT
   simp only at hT
   rw [if_neg (by decide), Ca (by simp; omega), Aa, List.nil_append, Ca (by omega), Aa, Aa, Cs (by omega) (by omega), Aa] at hT
   rw [Bbv hb k2 k1, Aa]
   simp only
   rw [if_neg (by decide), Ca (by omega), Aa, Cs (by omega) (by omega), Aa, Bkb]
   exact ⟨_, rfl, rp4 hT⟩
end Go.Pl
set_option linter.unusedVariables false
set_option linter.unusedSimpArgs false
namespace Go.Pl
open Go Go.Lv
theorem Bhw (a : LI) (b : Int) (ha : a.length ≤ 100) : ∀ (j i q : Nat), i + j = a.length → j < q → ∃ r, Bi a b q (i : Int) = some r ∧ Qq r 0 = (a.drop i).any fun y => b == y
 | 0, i, q + 1, hi, _ => by
  refine ⟨-1, ?_, ?_⟩
  ·rw [Bi, Dg, if_neg (by rw [Af, Ac]; simp; omega)]; rfl
  ·rw [show i = a.length by omega, List.drop_length]; rfl
 | j + 1, i, q + 1, hi, hq => by
  have hlt : i < a.length := by omega
  obtain ⟨r, h1, h2⟩ := Bhw a b ha j (i + 1) q (by omega) (by omega)
  rw [Bi, Dg, if_pos (by rw [Af, Ac]; simp; omega), Cq hlt, Aa, drop_cons hlt, List.any_cons]
  by_cases h : b = a[i]
  ·rw [if_pos (by rw [Ba]; simpa using h)]
   refine ⟨_, rfl, ?_⟩
   rw [Dt, decide_eq_true (by omega), h]; simp
  ·rw [if_neg (by rw [Ba]; simpa using h), Ah (by omega) (by omega)]
   refine ⟨r, h1, ?_⟩
   rw [h2, beq_eq_false_iff_ne.2 h, Bool.false_or]
theorem Bsy (v : Int) : ∃ B : Bool, Qr v = some B ∧ Qd v = some B := by
 obtain ⟨r, h1, h2⟩ := Bhw [4, 12, 16, 22, 24, 26, 38] v (by decide) 7 0 Au rfl (by have := Aq; omega)
 refine ⟨_, ?_, rfl⟩
 rw [Qr, Gt, Hv, Gs, Gw]
 have h1' : Bi [4, 12, 16, 22, 24, 26, 38] v Au 0 = some r := h1
 rw [h1', Aa, Aa, h2]
 simp only [List.drop_zero, List.any_cons, List.any_nil, Bool.or_false, Ba, Bool.or_assoc]
theorem Auk (B : Bool) : Bd B = some (if B = true then 0 else 8) := by
 rw [Bd, Alu]; cases B <;> rfl
theorem Bt3 (a b : LB) (f g h k m : Int) (n : LI) (o : Int) (p : LB) (u : Bool) (v : Int) (hb : b.length ≤ 16000000) (hn : n.length ≤ 16000000) (hp : p.length ≤ 16000000) :
  Cw a b f g h k m n o p u v = some (a, b, f, g, h, k, m, n, o, p, u, v) := by
 rw [Cw, Jy, Ca (by simp; omega), Aa, Aa, Jy, Ca (by simp; omega), Aa, Aa, Ey, Ca (by simp; omega), Aa, Aa]
 rfl
theorem Bh9 (o p : LB) (f c w r n : Int) (g : LI) (a : Int) (x : LB) (u : Bool) (v : Int) (hp : p.length ≤ 100000) (hg : g.length ≤ 100000) (hx : x.length ≤ 14000000) :
  ∃ E, Vm o p f c w r n g a x u v = some E ∧ Jr o p f c w r n g a x u v = some E := by
 rw [Vm, Aae, Jr]
 by_cases ho : 64 < o.length
 ·rw [if_pos (by rw [As, Ac]; simp; omega), if_pos (by rw [As, Ac]; simp; omega)]
  exact ⟨8, rfl, rfl⟩
 have hO : ¬ (Du (Ac o) 64 = true) := by rw [As, Ac]; simp; omega
 rw [if_neg hO, if_neg hO]
 by_cases hw : (geq v 0 && !u) = true
 ·rw [if_pos hw, if_pos hw, Bt3 o p f c w r n g a x u v (by omega) (by omega) (by omega), Aa]
  simp only
  rcases Bks o p f c w r n g a x u v with ⟨e1, e2⟩ | ⟨e1, e2, hd⟩
  ·rw [e1, e2, Aa, Aa, if_neg (by decide), if_pos (by decide), Auk]
   exact ⟨8, rfl, rfl⟩
  ·rw [e1, e2, Aa, if_pos rfl]
   have key : ∃ B : Bool, Bko o p f c w r n g a x u v = Bd B ∧ Bw o p f c w r n g a x u v = some B := by
    cases hd with
    | new e1 e2 e3 e4 e5 e6 e7 e8 => subst e1; exact Bpv o p c w r n g a x u v hp
    | head F C W R N h hpw e6 e7 e8 => subst e6; exact Buv h o p (by omega) hp a x u v
    | tab F C W R N A h hpw ht hl ea hA => subst ea; exact Bpb h o p (by omega) hp g ht hl A hA x hx u v
   obtain ⟨B, k1, k2⟩ := key
   rw [k2, Aa]
   refine ⟨if B = true then 0 else 8, k1.trans (Auk B), ?_⟩
   cases B <;> rfl
 ·rw [if_neg hw, if_neg hw]
  by_cases hl : (geq (Ac p) 0 && geq (Ac g) 0) = true
  ·rw [if_pos hl, if_pos hl]
   generalize (geq f 0 && (geq c 0 && (geq w 0 && (geq r 0 && (geq n 0 && true))))) = z
   by_cases hz : ((z && geq a 0) && gle (Ac x) 12000) = true
   ·rw [if_pos hz]
    simp only [Bool.and_eq_true, An3, Ac, decide_eq_true_eq] at hz
    obtain ⟨⟨z1, z2⟩, z3⟩ := hz
    have hN : ¬ ((!(z && geq a 0) || Du (Ac x) 12000) = true) := by rw [z1, z2, As, Ac]; simp; omega
    rw [if_neg hN]
    by_cases hv : v = 0
    ·have v1 : geq v 0 = true := by rw [Ba]; simpa using hv
     have v2 : ¬ (Bn v 0 = true) := by rw [Am]; simpa using hv
     rw [if_pos v1, if_neg v2, Auk]
     exact ⟨0, rfl, rfl⟩
    ·have v1 : ¬ (geq v 0 = true) := by rw [Ba]; simpa using hv
     have v2 : Bn v 0 = true := by rw [Am]; simpa using hv
     rw [if_neg v1, if_pos v2]
     obtain ⟨B, k1, k2⟩ := Bsy v
     rw [k1, k2, Aa, Aa, Auk, Auk]
     cases u
     ·refine ⟨if B = true then 0 else 8, by simp, ?_⟩
      cases B <;> rfl
     ·exact ⟨8, rfl, rfl⟩
   ·rw [if_neg hz, if_pos, Auk]
    ·exact ⟨8, rfl, rfl⟩
    ·simp only [Bool.and_eq_true, An3, Ac, decide_eq_true_eq] at hz
     simp only [Bool.or_eq_true, Bool.not_eq_true', As, Ac, decide_eq_true_eq]
     by_cases hz2 : (z && geq a 0) = true
     ·rw [Bool.and_eq_true] at hz2
      exact .inr (by have hq : ¬ ((x.length : Int) ≤ 12000) := fun h => hz ⟨hz2, h⟩; omega)
     ·exact .inl (by simpa using hz2)
  ·rw [if_neg hl, if_neg hl, if_neg (by simp), if_pos (by simp), Auk]
   exact ⟨8, rfl, rfl⟩
end Go.Pl
set_option linter.unusedVariables false
set_option linter.unusedSimpArgs false
namespace Go.Pl
open Go Go.Lv
def feedP (bk : LB → Int → Int → Int → Int → Int → Int → LI → LB → pushdec_Feed_O) (o : LB) (u : Bool) (v : Int) : LB → Int → Int → Int → Int → Int → Int → LI → LB → pushdec_Feed_O :=
 Hn (Mn bk o u v) (Ti bk o u v) (Js bk o u v) (Ta bk o u v) (Jm bk o u v) (Mp bk o u v) (Te bk o u v) (Bl bk o u v) (Aac bk o u v) o u v
structure SzD (p : LB) (g : LI) (a : Int) (x : LB) : Prop where
 hp : p.length ≤ 100000
 hg : g.length ≤ 1000
 hx : x.length + 12000 * (g.length - a.toNat) ≤ 13000000
def muD (f : Int) (g : LI) (a : Int) : Nat := if f = 0 then 1003 else if g = [] then 1002 else g.length - a.toNat + 1
section
variable {bk : LB → Int → Int → Int → Int → Int → Int → LI → LB → pushdec_Feed_O} {o p : LB} {f c w r n : Int} {g : LI} {a : Int} {x : LB} {u : Bool} {v : Int}
theorem Bqu (hp : p.length ≤ 100000) (hg : g.length ≤ 1000) (hx : x.length ≤ 13000000) : Cw o p f c w r n g a x u v = some (o, p, f, c, w, r, n, g, a, x, u, v) := by
 rw [Cw, Jy, Ca (by simp; omega), Aa, Aa, Jy, Ca (by simp; omega), Aa, Aa, Ey, Ca (by simp; omega), Aa, Aa]
 rfl
theorem Cae (h : SzD p g a x) (e : Int) : Bl bk o u v p f c w r n a true e g x = some (o, p, f, c, w, r, n, g, a, x, u, v, 0) := by
 rw [Bl, Af5, if_pos rfl, Bqu h.hp h.hg (by have := h.hx; omega), Aa]
theorem Cag {e : Int} (h : e ≠ 0) : Bl bk o u v p f c w r n a false e g x = some (o, [], 0, 0, 0, 0, 0, [], 0, x, false, e, e) := by
 rw [Bl, Af5, if_neg (by decide), if_pos (by rw [Am]; simpa using h)]; rfl
inductive StepR (bk : LB → Int → Int → Int → Int → Int → Int → LI → LB → pushdec_Feed_O) (o p : LB) (f c w r n : Int) (g : LI) (a : Int) (x : LB) (u : Bool) (v : Int) : Prop
 | wait : feedP bk o u v p f c w r n a g x = some (o, p, f, c, w, r, n, g, a, x, u, v, 0) → cadenzaref37_take o p f c w r n g a x u v = some (o, p, f, c, w, r, n, g, a, x, u, v, -1) → StepR bk o p f c w r n g a x u v
 | err (e : Int) {t1 t2 : LB} {t3 t4 t5 t6 t7 : Int} {t8 : LI} {t9 : Int} {t10 : LB} {t11 : Bool} {t12 : Int} : 0 < e → feedP bk o u v p f c w r n a g x = some (o, [], 0, 0, 0, 0, 0, [], 0, x, false, e, e) →
   cadenzaref37_take o p f c w r n g a x u v = some (t1, t2, t3, t4, t5, t6, t7, t8, t9, t10, t11, t12, e) → StepR bk o p f c w r n g a x u v
 | next (p' : LB) (f' c' w' r' n' : Int) (g' : LI) (a' : Int) (x' : LB) : feedP bk o u v p f c w r n a g x = bk p' f' c' w' r' n' a' g' x' → cadenzaref37_take o p f c w r n g a x u v = some (o, p', f', c', w', r', n', g', a', x', u, v, 0) →
   FitD o f' c' w' r' n' g' a' x' → SzD p' g' a' x' → p'.length ≤ p.length → muD f' g' a' < muD f g a → StepR bk o p f c w r n g a x u v
theorem f62 {d : Bool} {e : Int} : Mn bk o u v a g x d e p f c w r n = Bl bk o u v p f c w r n a d e g x := rfl
theorem f75 {d : Bool} {e : Int} : Js bk o u v f c w r n a x d e p g = Bl bk o u v p f c w r n a d e g x := rfl
theorem f78 {d : Bool} {e : Int} : Mp bk o u v f c w r n g d e p a x = Bl bk o u v p f c w r n a d e g x := rfl
theorem mkW (hZ : SzD p g a x) (hF : feedP bk o u v p f c w r n a g x = Bl bk o u v p f c w r n a true 0 g x) (hT : cadenzaref37_take o p f c w r n g a x u v = some (o, p, f, c, w, r, n, g, a, x, u, v, -1)) : StepR bk o p f c w r n g a x u v :=
 .wait (hF.trans (Cae hZ 0)) hT
theorem mkE {e : Int} {p2 : LB} {f2 c2 w2 r2 n2 a2 : Int} {g2 : LI} {t1 t2 : LB} {t3 t4 t5 t6 t7 : Int} {t8 : LI} {t9 : Int} {t10 : LB} {t11 : Bool} {t12 : Int} (he : 0 < e) (hF : feedP bk o u v p f c w r n a g x = Bl bk o u v p2 f2 c2 w2 r2 n2 a2 false e g2 x)
  (hT : cadenzaref37_take o p f c w r n g a x u v = some (t1, t2, t3, t4, t5, t6, t7, t8, t9, t10, t11, t12, e)) : StepR bk o p f c w r n g a x u v := .err e he (hF.trans (Cag (by omega))) hT
theorem HdI.fnz {F C W R N : Nat} (h : HdI f c w r n F C W R N) : f ≠ 0 := by
 have := h.num
 rw [h.ef]; omega
theorem Btj (hp : p.length ≤ 100000) : StepR bk o p 0 0 0 0 0 [] 0 [] u v := by
 have hZ : SzD p [] 0 [] := ⟨hp, by simp, by simp⟩
 have hT : cadenzaref37_take o p 0 0 0 0 0 [] 0 [] u v = cadenzaref37_take o p 0 0 0 0 0 [] 0 [] u v := rfl
 conv at hT => rhs; rw [cadenzaref37_take, Cu, if_pos (by decide), Azx p hp, Aa, stS]
 have hF : feedP bk o u v p 0 0 0 0 0 0 [] [] = feedP bk o u v p 0 0 0 0 0 0 [] [] := rfl
 conv at hF => rhs; rw [feedP, Hn, if_pos (by decide), Ak6 p (by omega), Aa]
 have hfn := Beb p
 have hrn := Bi4 (hdr p)
 have hok := Asu (b := p)
 simp only at hT hF
 by_cases h1 : (Gu p).2 = 24
 ·rw [if_pos h1] at hT
  simp only at hT
  rw [if_pos (by decide)] at hT
  rw [if_pos (by rw [Ba]; simpa using h1)] at hF
  exact mkW hZ hF hT
 rw [if_neg h1] at hT
 rw [if_neg (by rw [Ba]; simpa using h1)] at hF
 by_cases h2 : (Gu p).2 ≠ 0
 ·rw [if_pos h2] at hT
  simp only at hT
  rw [if_pos (by rw [Am]; simpa using h2)] at hT
  rw [if_pos (by rw [Am]; simpa using h2), Ag, Aa] at hF
  exact mkE (by omega) hF hT
 have h0 : (Gu p).2 = 0 := by simpa using h2
 obtain ⟨k1, k2, k3⟩ := hok h0
 have hl : (hdr p).length = p.length - (Gu p).1.toNat := by rw [hdr, List.length_drop]
 rw [if_neg h2] at hT
 rw [if_neg (by rw [Am, h0]; simp), Cs (by omega) (by omega), Aa, Aa, show p.drop (Gu p).1.toNat = hdr p from rfl, Bsb, Aa] at hF
 by_cases h3 : (Ao9 (hdr p) ID3 || Ao9 (hdr p) APX) = true
 ·rw [if_pos h3] at hT hF
  simp only at hT
  rw [if_pos (by decide)] at hT
  exact mkW hZ hF hT
 rw [if_neg h3] at hT hF
 rw [Axg _ (by omega), Aa] at hF
 by_cases h5 : (Gz (hdr p)).2.2.2.2.2 = 24
 ·rw [if_pos h5] at hT
  simp only at hT
  rw [if_pos (by decide)] at hT
  rw [if_pos (by rw [Ba]; simpa using h5)] at hF
  exact mkW hZ hF hT
 rw [if_neg h5] at hT
 rw [if_neg (by rw [Ba]; simpa using h5)] at hF
 simp only at hT
 by_cases h6 : (Gz (hdr p)).2.2.2.2.2 ≠ 0
 ·rw [if_pos (by rw [Am]; simpa using h6)] at hT hF
  rw [Ag, Aa] at hF
  exact mkE (by have := hrn; generalize (Gz (hdr p)).2.2.2.2.2 = z at *; omega) (hF.trans f62) hT
 have h7 : (Gz (hdr p)).2.2.2.2.2 = 0 := by simpa using h6
 obtain ⟨r1, h22, r3, r4⟩ := Bjk h7
 rw [if_neg (by rw [Am, h7]; simp), Cs (by omega) (by omega), Aa, Pw, Zk, He] at hT
 rw [if_neg (by rw [Am, h7]; simp), Ah (by omega) (by omega), Cs (by omega) (by omega), Aa, Ti, Af1, Mv] at hF
 simp only at hT hF
 by_cases h8 : ((o == ([] : LB)) != geq (Gz (hdr p)).1 1) = true
 ·rw [if_pos h8] at hT hF
  rw [Aa] at hT hF
  rw [Ag, Aa] at hF
  simp only at hF
  exact mkE (by decide) (hF.trans f62) hT
 ·rw [if_neg h8] at hT hF
  rw [Aa] at hT hF
  rw [Ag, Aa] at hF
  have hd : HdI (Gz (hdr p)).1 (Gz (hdr p)).2.1 (Gz (hdr p)).2.2.1 (Gz (hdr p)).2.2.2.1 (Gz (hdr p)).2.2.2.2.1 (f0 (hdr p)) (f1 (hdr p)) (f2 (hdr p)) (f3 (hdr p)) (f4 (hdr p)) := by
   constructor <;> first | (rw [r1]) | assumption
  refine .next _ _ _ _ _ _ [] 0 [] (by exact hF) hT (.head _ _ _ _ _ hd ?_ rfl rfl rfl) ⟨by rw [List.length_drop]; omega, by simp, by simp⟩ (by rw [List.length_drop]; omega) ?_
  ·have e : geq (Gz (hdr p)).1 1 = decide (f0 (hdr p) = 1) := by rw [hd.ef, Ba, Bool.eq_iff_iff]; simp; omega
   rw [← e]; simpa using h8
  ·rw [muD, muD, if_neg hd.fnz, if_pos rfl, if_pos rfl]; omega
section
variable {F C W R N : Nat} (hd : HdI f c w r n F C W R N)
include hd
theorem Bmp (hp : p.length ≤ 100000) (hpw : (o == ([] : LB)) = decide (F = 1)) (A : Nat) (hA : A ≤ p.length)
  (hT : cadenzaref37_take o p f c w r n [] 0 [] u v = (Fh p f c w r n (A : Int)).bind (fun (ag, ak, w1) => if (Bn w1 0) then some (o, p, f, c, w, r, n, ([] : LI), (0 : Int), ([] : LB), u, v, w1) else (Bc p ag (Ac p)).bind fun al => some (o, al, f, c, w, r, n, ak, (0 : Int), ([] : LB), u, v, (0 : Int))))
  (hF : feedP bk o u v p f c w r n 0 [] [] = Jm bk o u v p f c w r n 0 [] [] (A : Int)) : StepR bk o p f c w r n [] 0 [] u v := by
 have hZ : SzD p [] 0 [] := ⟨hp, by simp, by simp⟩
 obtain ⟨_, t2, t3⟩ := Bsc hd o p hp A hA 0 [] u v
 have hs := Bc7 (p.drop A) (framesL (longN R) N).length (by rw [List.length_drop]; omega)
 have hnn := Bi0 (p.drop A) (framesL (longN R) N).length
 have hok := Bit (b := p.drop A) (n := (framesL (longN R) N).length)
 rw [t2, Aa] at hT
 rw [Jm, Afv, hd.Awx, Aa] at hF
 simp only at hF
 rw [if_neg (by decide), Cs (by omega) (by omega), Aa, Int.toNat_natCast, Ac, hs, Aa] at hF
 generalize hz : Oa (p.drop A) (framesL (longN R) N).length = z at *
 obtain ⟨z1, z2⟩ := z
 simp only at *
 by_cases h1 : z2 = 24
 ·rw [if_pos h1] at hT
  simp only at hT
  rw [if_pos (by decide)] at hT
  rw [if_pos (by rw [Ba]; simpa using h1)] at hF
  exact mkW hZ hF hT
 rw [if_neg h1] at hT
 rw [if_neg (by rw [Ba]; simpa using h1)] at hF
 simp only at hT
 by_cases h2 : z2 ≠ 0
 ·rw [if_pos (by rw [Am]; simpa using h2)] at hT hF
  rw [Ag, Aa] at hF
  exact mkE (by omega) hF hT
 ·have h0 : z2 = 0 := by simpa using h2
  subst h0
  have h3 := t3 rfl
  obtain ⟨k1, k2, k3, k4, k5, k6⟩ := hok rfl
  simp only [Prod.mk.injEq, and_true] at k1
  have hl : z1.length = (framesL (longN R) N).length := by rw [k1]; exact Ahf _ _
  rw [← k1] at k5 k6
  rw [if_neg (by decide), Cs (by omega) (by omega), Aa] at hT
  rw [if_neg (by decide), Ac, Bke A z1.length (by omega) (by omega), Cs (by omega) (by omega), Aa] at hF
  have hne : z1 ≠ [] := by intro e; rw [e] at hl; simp at hl; omega
  refine .next _ _ _ _ _ _ z1 0 [] (by exact hF) hT (.tab _ _ _ _ _ 0 hd hpw ?_ hl rfl (by omega)) ⟨by rw [List.length_drop]; omega, by omega, by simp; omega⟩ (by rw [List.length_drop]; omega) ?_
  ·rw [tabB, Bool.and_eq_true, decide_eq_true_eq, Atb z1 100000 (by omega)]
   exact ⟨by omega, k5, k6⟩
  ·rw [muD, muD, if_neg hd.fnz, if_neg hd.fnz, if_pos rfl, if_neg hne]
   simp; omega
theorem Bos (ho : o.length ≤ 64) (hp : p.length ≤ 100000) (hpw : (o == ([] : LB)) = decide (F = 1)) : StepR bk o p f c w r n [] 0 [] u v := by
 have hZ : SzD p [] 0 [] := ⟨hp, by simp, by simp⟩
 have hT : cadenzaref37_take o p f c w r n [] 0 [] u v = cadenzaref37_take o p f c w r n [] 0 [] u v := rfl
 conv at hT => rhs; rw [cadenzaref37_take, Cu, if_neg hd.ne0, Hm, Es, if_pos (by decide), Lg, Mh]
 have hF : feedP bk o u v p f c w r n 0 [] [] = feedP bk o u v p f c w r n 0 [] [] := rfl
 conv at hF => rhs; rw [feedP, Hn, if_neg hd.ne0, if_pos (by decide)]
 by_cases h2 : geq f 2 = true
 ·rw [if_pos h2] at hT hF
  by_cases h8 : p.length < 8
  ·rw [if_pos (by rw [Af, Ac]; simp; omega)] at hT hF
   rw [Aa] at hT
   simp only at hT
   rw [if_pos (by decide)] at hT
   exact mkW hZ hF hT
  ·rw [if_neg (by rw [Af, Ac]; simp; omega)] at hT hF
   have h8' : (p.take 8).length = 8 := by rw [List.length_take]; omega
   rw [Dh (by omega) (by omega), Aa, Bd8 o ho, Aa] at hT
   rw [Ta, Ago, Dh (by omega) (by omega), Aa, show (8 : Int).toNat = 8 from rfl, Bgt h8' ho, Aa] at hF
   rw [show (8 : Int).toNat = 8 from rfl] at hT
   simp only at hF
   rw [Agc, Agm, if_neg (by decide)] at hF
   by_cases he : (p.take 8 == leB (Ac4 o).toNat 8) = true
   ·rw [if_neg (by rw [bne, he]; decide)] at hT
    rw [if_neg (by rw [he]; decide)] at hF
    exact Bmp hd hp hpw 8 (by omega) hT hF
   ·have he' : (p.take 8 == leB (Ac4 o).toNat 8) = false := by simpa using he
    rw [if_pos (by rw [bne, he']; decide), Aa] at hT
    simp only at hT
    rw [if_pos (by decide)] at hT
    rw [if_pos (by rw [he']; decide), Ag, Aa] at hF
    simp only at hF
    exact mkE (by decide) (hF.trans f75) hT
 ·rw [if_neg h2] at hT hF
  exact Bmp hd hp hpw 0 (by omega) hT hF
theorem Bts (ho : o.length ≤ 64) (hpw : (o == ([] : LB)) = decide (F = 1)) (hg : tabB g = true) (hl : g.length = (framesL (longN R) N).length) (A : Nat) (hA : A ≤ g.length) (hZ : SzD p g (A : Int) x) : StepR bk o p f c w r n g (A : Int) x u v := by
 have hp := hZ.hp
 have hx := hZ.hx
 have hc := hd.ec
 subst hc
 have hg' := hg
 rw [tabB, Bool.and_eq_true, decide_eq_true_eq, Atb g 100000 (by omega)] at hg'
 obtain ⟨⟨g1, g2⟩, g5, g6⟩ := hg'
 have hgn : ¬ (geq (Ac g) 0 = true) := by rw [Ba, Ac]; simp; intro e; subst e; simp at g1
 have hT : cadenzaref37_take o p f (C : Int) w r n g (A : Int) x u v = cadenzaref37_take o p f (C : Int) w r n g (A : Int) x u v := rfl
 conv at hT => rhs; rw [cadenzaref37_take, Cu, if_neg hd.ne0, Hm, Es, if_neg hgn]
 have hF : feedP bk o u v p f (C : Int) w r n (A : Int) g x = feedP bk o u v p f (C : Int) w r n (A : Int) g x := rfl
 conv at hF => rhs; rw [feedP, Hn, if_neg hd.ne0, if_neg hgn]
 by_cases hA2 : A = g.length
 ·subst hA2
  rw [if_pos (by rw [Ba, Ac]; simp)] at hT
  rw [if_neg (by rw [Af, Ac]; simp)] at hF
  by_cases h4 : 4000 < p.length
  ·rw [if_pos (by rw [As, Ac]; simp; omega)] at hT hF
   rw [Ag, Aa] at hF
   exact mkE (by decide) hF hT
  ·rw [if_neg (by rw [As, Ac]; simp; omega)] at hT hF
   exact mkW hZ hF hT
 ·have hlt : A < g.length := by omega
  have h5 := g5 g[A] (List.getElem_mem hlt)
  have hsum := Bfw g5 g[A] (List.getElem_mem hlt)
  rw [if_neg (by rw [Ba, Ac]; simp; omega), Lp, Ls, Cq hlt, Aa] at hT
  rw [if_pos (by rw [Af, Ac]; simp; omega), Cq hlt, Aa, Aa] at hF
  by_cases hw : (p.length : Int) < g[A]
  ·rw [if_pos (by rw [Af, Ac]; simpa using hw)] at hT hF
   rw [Aa] at hT
   simp only at hT
   rw [if_pos (by decide)] at hT
   exact mkW hZ hF hT
  rw [if_neg (by rw [Af, Ac]; simpa using hw)] at hT hF
  have hnum := hd.num
  have hlt2 : A < (framesL (longN R) N).length := by omega
  obtain ⟨m, hm, m1, m2⟩ := Auw (Ajy R) hnum.2.2.2.2.1 (List.getElem_mem hlt2)
  have hb : Dj w := by rw [hd.ew]; unfold Dj; omega
  obtain ⟨xs, e, d1, d2, d3, d4⟩ := Ayd (bits := w) (ch := C) (n := m) (t := Aru o) (p.take g[A].toNat) hb (Ao4 o) hnum.2.1.1 hnum.2.1.2 m1 (by omega)
  have hnn := Bet hb (Ao4 o) hnum.2.1.1 hnum.2.1.2 m1 (by omega) d2
  rw [Bd5 o ho, Aa] at hF
  simp only at hF
  rw [if_neg (by decide), hd.Awx, Aa] at hF
  simp only at hF
  rw [if_neg (by simp [Am, Dt, Ac]; omega), Te, Age, Cq hlt2, Aa, Dh (by omega) (by omega), Aa, Aa, Aa9, Aa] at hF
  simp only at hF
  rw [hm, d1, Aa] at hF
  simp only at hF
  rw [Bir o ho, Aa] at hT
  simp only at hT
  rw [Dh (by omega) (by omega), Aa, Jo, Aa] at hT
  simp only at hT
  rw [hd.Bui, Aa, Cq hlt2, Aa, Aa, hm] at hT
  rw [d2, Aa] at hT
  simp only at hT
  rw [Lw, Un] at hT
  rw [Afy, Aab] at hF
  by_cases he : e ≠ 0
  ·rw [if_pos (by rw [Am]; simpa using he)] at hT hF
   rw [Aa] at hT
   simp only at hT
   rw [if_pos (by rw [Am]; simpa using he)] at hT
   rw [Ag, Aa] at hF
   exact mkE (by omega) hF hT
  ·have he0 : e = 0 := by simpa using he
   obtain ⟨k1, k2, k3⟩ := d3 he0
   have hbl := Aks w xs
   have ht : ((A : Int)).toNat = A := rfl
   rw [ht] at hx
   rw [if_neg (by rw [Am, he0]; simp)] at hT hF
   rw [Bdm hb k2 k1, Aa, Aa] at hT
   simp only at hT
   rw [if_neg (by decide), Ca (by simp; omega), Aa, List.nil_append, Ca (by omega), Aa, Aa, Cs (by omega) (by omega), Aa, Ah (by omega) (by omega)] at hT
   rw [Bbv hb k2 k1, Aa] at hF
   simp only at hF
   rw [if_neg (by decide), Ca (by omega), Aa, Cs (by omega) (by omega), Aa, Ah (by omega) (by omega)] at hF
   have e1 : ((A : Int) + 1).toNat = A + 1 := rfl
   refine .next _ _ _ _ _ _ _ _ _ (by exact hF) hT (.tab _ _ _ _ _ (A + 1) hd hpw hg hl rfl (by omega)) ⟨by rw [List.length_drop]; omega, hZ.hg, by rw [e1, List.length_append]; omega⟩ (by rw [List.length_drop]; omega) ?_
   have hne : g ≠ [] := by intro e; subst e; simp at g1
   rw [muD, muD, if_neg hd.fnz, if_neg hd.fnz, if_neg hne, if_neg hne, e1, ht]
   omega
end
theorem Btb (hf : FitD o f c w r n g a x) (ho : o.length ≤ 64) (hZ : SzD p g a x) : StepR bk o p f c w r n g a x u v := by
 cases hf with
 | new e1 e2 e3 e4 e5 e6 e7 e8 => subst e1 e2 e3 e4 e5 e6 e7 e8; exact Btj hZ.hp
 | head F C W R N h hpw e6 e7 e8 => subst e6 e7 e8; exact Bos h ho hZ.hp hpw
 | tab F C W R N A h hpw ht hl ea hA => subst ea; exact Bts h ho hpw ht hl A hA hZ
end
end Go.Pl
set_option linter.unusedVariables false
set_option linter.unusedSimpArgs false
namespace Go.Pl
open Go Go.Lv
end Go.Pl
set_option linter.unusedVariables false
set_option linter.unusedSimpArgs false
namespace Go.Pl
open Go Go.Lv
abbrev Bzf := LB × LB × Int × Int × Int × Int × Int × LI × Int × LB × Bool × Int × Int
def Res (X Y : Option Bzf) : Prop := ∃ (t1 t2 : LB) (t3 t4 t5 t6 t7 : Int) (t8 : LI) (t9 : Int) (t10 : LB) (t11 : Bool) (t12 e : Int), X = some (t1, t2, t3, t4, t5, t6, t7, t8, t9, t10, t11, t12, e) ∧ Y = some (t1, t2, t3, t4, t5, t6, t7, t8, t9, t10, t11, t12, e) ∧ t8.length ≤ 2000
theorem Bsn : ∀ (j : Nat) (b : LB) (a : Nat), (Bf4 j b a).2 = 0 ∨ (Bf4 j b a).2 = 38
 | 0, _, _ => .inr rfl
 | j + 1, b, a => by
  rw [Bf4]
  split
  ·exact .inl rfl
  ·split
   ·exact .inr rfl
   ·exact Bsn j _ _
theorem Bpx (b : LB) : (Ama b).2 = 0 ∨ (Ama b).2 = 38 := by
 rw [Ama]
 split
 ·exact .inr rfl
 ·exact Bsn _ _ _
theorem Bak {o p : LB} {f c w r n : Int} {g : LI} {a : Int} {x : LB} {u : Bool} {v : Int} (hp : p.length ≤ 100000) (hg : g.length ≤ 2000) (hx : x.length ≤ 13000000) : Kh o p f c w r n g a x u v = some (o, p, f, c, w, r, n, g, a, x, u, v) := by
 rw [Kh, Pf, Ca (by simp; omega), Aa, Ca (by simp; omega), Aa, Ze, Ahc, Ca (by simp; omega), Aa]
 rfl
theorem Bon {o p : LB} {f c w r n : Int} {g : LI} {a : Int} {x : LB} {u : Bool} {v : Int} (hp : p.length ≤ 100000) (hg : g.length ≤ 2000) (hx : x.length ≤ 13000000) : Cw o p f c w r n g a x u v = some (o, p, f, c, w, r, n, g, a, x, u, v) := by
 rw [Cw, Jy, Ca (by simp; omega), Aa, Aa, Jy, Ca (by simp; omega), Aa, Aa, Ey, Ca (by simp; omega), Aa, Aa]
 rfl
theorem Azy {o p : LB} {f c w r n : Int} {g : LI} {a : Int} {x : LB} {u : Bool} {v e : Int} (hx : x.length ≤ 13000000) : Ln o p f c w r n g a x u v e = some (o, [], 0, 0, 0, 0, 0, [], 0, x, false, e, e) := by
 rw [Ln, Ij, Ca (by simp; omega), Aa]; rfl
theorem Bxe {p : LB} {f : Int} {g : LI} {a : Int} {x : LB} (h : SzD p g a x) : muD f g a < 1004 := by
 have := h.hg
 unfold muD
 split
 ·omega
 ·split <;> omega
section
variable {o p : LB} {f c w r n : Int} {g : LI} {a : Int} {x : LB} {u : Bool} {v : Int} (hp : p.length ≤ 20000) (hg : g.length ≤ 2000) (hx : x.length ≤ 13000000)
include hp hg hx
theorem Bjh {E : Int} (hE : Vm o p f c w r n g a x u v = some E) : Qk o p f c w r n g a x u v = if E ≠ 0 then some ([], [], 0, 0, 0, 0, 0, [], 0, [], false, 0, E) else some (o, p, f, c, w, r, n, g, a, x, u, v, if v ≠ 0 then v else if u = true then 36 else 0) := by
 rw [Qk, hE, Aa]
 by_cases h : E ≠ 0
 ·rw [if_pos (by rw [Am]; simpa using h), if_pos h]
 rw [if_neg (by rw [Am]; simpa using h), if_neg h, Bon (by omega) hg (by omega)]
 by_cases hv : v ≠ 0
 ·rw [if_pos (by rw [Am]; simpa using hv), if_pos hv, Aa]
 ·rw [if_neg (by rw [Am]; simpa using hv), if_neg hv]
  cases u <;> simp [Aa]
omit hg hx in
theorem Bjl : ∃ e, Aeq o p f c w r n g a x u v = some e ∧ Rl o p f c w r n g a x u v = some e := by
 rw [Aeq, Rl]
 by_cases h0 : geq f 0 = true
 ·rw [if_pos h0, if_pos h0, Ak6 p (by omega), Au9 p (by omega), Aa, Aa]
  have hok := Asu (b := p)
  simp only
  by_cases h2 : (Gu p).2 ≠ 0
  ·rw [if_pos (by rw [Am]; simpa using h2), if_pos (by rw [Am]; simpa using h2)]
   exact ⟨_, rfl, rfl⟩
  have h3 : (Gu p).2 = 0 := by simpa using h2
  obtain ⟨k1, k2, k3⟩ := hok h3
  have hl : (hdr p).length ≤ p.length := by rw [hdr, List.length_drop]; omega
  rw [if_neg (by rw [Am, h3]; simp), if_neg (by rw [Am, h3]; simp), Cs (by omega) (by omega), Aa, Aa, show p.drop (Gu p).1.toNat = hdr p from rfl, Axg _ (by omega), Bip _ (by omega), Aa]
  exact ⟨_, rfl, rfl⟩
 ·rw [if_neg h0, if_neg h0, Bool.or_comm]
  by_cases h1 : (geq (Ac g) 0 || By a (Ac g)) = true
  ·rw [if_pos h1, if_pos h1]
   exact ⟨_, rfl, rfl⟩
  ·rw [if_neg h1, if_neg h1, Bjn p (by omega), Bl6 p (by omega), Aa, Aa]
   simp only
   refine ⟨(Ama p).2, rfl, ?_⟩
   rcases Bpx p with h | h
   ·rw [if_neg (by rw [h]; decide), h]
   ·rw [if_pos (by rw [h]; decide), h]
theorem Bjf : Res (Aef o p f c w r n g a x u v) (Ra o p f c w r n g a x u v) := by
 obtain ⟨E, e1, e2⟩ := Bh9 o p f c w r n g a x u v (by omega) (by omega) (by omega)
 rw [Aef, Bjh hp hg hx e1, Ra, e2, Aa]
 by_cases h : E ≠ 0
 ·rw [if_pos h, Aa, if_pos (by rw [Am]; simpa using h)]
  simp only
  rw [if_pos (by rw [Am]; simpa using h)]
  exact ⟨_, _, _, _, _, _, _, _, _, _, _, _, _, rfl, rfl, by simp⟩
 have h0 : E = 0 := by simpa using h
 subst h0
 have hE : ¬ (Bn (0 : Int) 0 = true) := by decide
 rw [if_neg h, Aa, if_neg hE, Bak (by omega) hg (by omega), Aa]
 simp only
 rw [Jz]
 by_cases hv : v ≠ 0
 ·have hv' : Bn v 0 = true := by rw [Am]; simpa using hv
  rw [if_pos hv, if_pos hv', if_pos hv', Aa, if_pos hv']
  exact ⟨_, _, _, _, _, _, _, _, _, _, _, _, _, rfl, rfl, hg⟩
 have hv' : ¬ (Bn v 0 = true) := by rw [Am]; simpa using hv
 rw [if_neg hv, if_neg hv']
 obtain ⟨e, d1, d2⟩ := Bjl (o := o) (f := f) (c := c) (w := w) (r := r) (n := n) (a := a) (u := u) (v := v) (g := g) (x := x) hp
 cases u with
 | true =>
  rw [if_pos rfl, if_pos rfl, Aa, if_pos (by decide), if_pos (by decide)]
  exact ⟨_, _, _, _, _, _, _, _, _, _, _, _, _, rfl, rfl, hg⟩
 | false =>
  rw [if_neg (by decide), if_neg (by decide), Aa, if_neg (by decide), d1, d2, Aa, Aa]
  by_cases he : Bn e 0 = true
  ·rw [if_pos he, if_pos he, Azy (by omega), Aa]
   exact ⟨_, _, _, _, _, _, _, _, _, _, _, _, _, rfl, rfl, by simp⟩
  ·rw [if_neg he, if_neg he, Ij, Ca (by simp; omega), Aa]
   exact ⟨_, _, _, _, _, _, _, _, _, _, _, _, _, rfl, rfl, by simp⟩
end
end Go.Pl
set_option linter.unusedVariables false
set_option linter.unusedSimpArgs false
namespace Go.Pl
open Go Go.Lv
def Caf (o : LB) (K : Nat) (u : Bool) (v : Int) (X Y : Option Bzf) : Prop := ∃ (t1 t2 : LB) (t3 t4 t5 t6 t7 : Int) (t8 : LI) (t9 : Int) (t10 : LB) (t11 : Bool) (t12 e : Int), X = some (t1, t2, t3, t4, t5, t6, t7, t8, t9, t10, t11, t12, e) ∧ Y = some (t1, t2, t3, t4, t5, t6, t7, t8, t9, t10, t11, t12, e) ∧ t10.length ≤ 13000000 ∧
 (e = 0 → t1 = o ∧ t2.length ≤ K ∧ FitD o t3 t4 t5 t6 t7 t8 t9 t10 ∧ SzD t2 t8 t9 t10 ∧ t11 = u ∧ t12 = v)
theorem Bah (K : Nat) : ∀ (k q1 q2 : Nat) (o p : LB) (f c w r n : Int) (g : LI) (a : Int) (x : LB) (u : Bool) (v : Int), FitD o f c w r n g a x → o.length ≤ 64 → SzD p g a x → p.length ≤ K → muD f g a < k → k ≤ q1 → k ≤ q2 →
  Caf o K u v (Ay o u v q1 p f c w r n a g x) (Jw q2 o p f c w r n g a x u v)
 | 0, _, _, _, _, _, _, _, _, _, _, _, _, _, _, _, _, _, _, h, _, _ => by omega
 | k + 1, q1, q2, o, p, f, c, w, r, n, g, a, x, u, v, hf, ho, hZ, hK, hm, h1, h2 => by
  obtain ⟨q1, rfl⟩ : ∃ q, q1 = q + 1 := ⟨q1 - 1, by omega⟩
  obtain ⟨q2, rfl⟩ : ∃ q, q2 = q + 1 := ⟨q2 - 1, by omega⟩
  have hx : x.length ≤ 13000000 := by have := hZ.hx; omega
  rw [Ay, Jw, Yc]
  have hS : StepR (Ay o u v q1) o p f c w r n g a x u v := Btb hf ho hZ
  cases hS with
  | wait hF hT =>
   rw [hT, Aa]
   simp only
   rw [if_pos (by decide), Bak hZ.hp (by have := hZ.hg; omega) hx, Aa]
   exact ⟨_, _, _, _, _, _, _, _, _, _, _, _, _, hF, rfl, hx, fun _ => ⟨rfl, hK, hf, hZ, rfl, rfl⟩⟩
  | err e he hF hT =>
   rw [hT, Aa]
   simp only
   rw [if_neg (by rw [Azz (by omega)]; decide), if_pos (by rw [Am]; simp; omega), Azy hx, Aa]
   exact ⟨_, _, _, _, _, _, _, _, _, _, _, _, _, hF, rfl, hx, fun h => absurd h (by omega)⟩
  | next p' f' c' w' r' n' g' a' x' hF hT hf' hZ' hle hmu =>
   rw [hT, Aa]
   simp only
   rw [if_neg (by decide), if_neg (by decide)]
   have ih := Bah K k q1 q2 o p' f' c' w' r' n' g' a' x' u v hf' ho hZ' (by omega) (by omega) (by omega) (by omega)
   have hF' : Hn (Mn (Ay o u v q1) o u v) (Ti (Ay o u v q1) o u v) (Js (Ay o u v q1) o u v) (Ta (Ay o u v q1) o u v) (Jm (Ay o u v q1) o u v) (Mp (Ay o u v q1) o u v) (Te (Ay o u v q1) o u v) (Bl (Ay o u v q1) o u v) (Aac (Ay o u v q1) o u v) o u v p f c w r n a g x = Ay o u v q1 p' f' c' w' r' n' a' g' x' := hF
   rw [hF']
   exact ih
theorem Bzd {o p : LB} {f c w r n : Int} {g : LI} {a : Int} {x : LB} (ho : o.length ≤ 64) (hf : FitD o f c w r n g a x) (hZ : SzD p g a x) (b : LB) (hp : p.length ≤ 20000) (hb : b.length ≤ 20000) :
  Caf o (p.length + b.length) false 0 (Ajj o p f c w r n g a x false 0 b) (If o p f c w r n g a x false 0 b) := by
 have hx : x.length ≤ 13000000 := by have := hZ.hx; omega
 have hg : g.length ≤ 2000 := by have := hZ.hg; omega
 obtain ⟨E, e1, e2⟩ := Bh9 o p f c w r n g a x false 0 (by omega) (by omega) (by omega)
 rw [Ajj, Aio, Bjh hp hg hx e1, If, Pe, e2, Aa]
 by_cases h : E ≠ 0
 ·rw [if_pos h, Aa, if_pos (by rw [Am]; simpa using h)]
  simp only
  rw [if_pos (by rw [Am]; simpa using h)]
  exact ⟨_, _, _, _, _, _, _, _, _, _, _, _, _, rfl, rfl, by simp, fun h' => absurd h' h⟩
 have h0 : E = 0 := by simpa using h
 subst h0
 have hE : ¬ (Bn (0 : Int) 0 = true) := by decide
 rw [if_neg h, Aa, if_neg hE, Bak (by omega) hg (by omega), Aa]
 simp only
 have hF : ¬ (false = true) := by decide
 rw [Jz, if_neg (show ¬ ((0 : Int) ≠ 0) from fun h => h rfl), if_neg hF]
 repeat (first | rw [Aa] | rw [if_neg hE] | rw [if_neg hF])
 rw [Ca (by omega)]
 rw [Aa, Aa]
 have hZ' : SzD (p ++ b) g a x := ⟨by rw [List.length_append]; omega, hZ.hg, hZ.hx⟩
 exact Bah _ 1004 Au Au o (p ++ b) f c w r n g a x false 0 hf ho hZ' (by rw [List.length_append]; exact Nat.le_refl _) (Bxe hZ') (by have := Aq; omega) (by have := Aq; omega)
end Go.Pl
set_option linter.unusedVariables false
set_option linter.unusedSimpArgs false
namespace Go.Pl
open Go Go.Lv
def pcs (f g : Nat) : Nat → Nat → Nat → LI
 | 0, _, _ => []
 | q + 1, h, a => if a + 1 = f ∨ g.testBit (a % 64) = true then ((a + 1 - h : Nat) : Int) :: pcs f g q (a + 1) (a + 1) else pcs f g q h (a + 1)
theorem Bsm (g : UInt64) (k : Nat) : (Hr (Ci g k) (1 : UInt64)).toNat = g.toNat / 2 ^ k % 2 := by
 rw [Avy, UInt64.toNat_and, Aei]
 exact Nat.and_one_is_mod _
theorem Bzq (g : UInt64) (k : Nat) : geq (Hr (Ci g (GI.toZ (Ig (k : Int) 64)).toNat) 1) (1 : UInt64) = g.toNat.testBit (k % 64) := by
 have e : (GI.toZ (Ig (k : Int) 64)).toNat = k % 64 := by
  unfold Ig; rw [Int.tmod_eq_emod_of_nonneg (by omega)]; simp only [GI.toZ]; omega
 rw [e, As3, Nat.testBit_eq_decide_div_mod_eq]
 refine decide_eq_decide.2 ⟨fun h => by rw [← Bsm, h]; rfl, fun h => UInt64.toNat_inj.1 (by rw [Bsm, h]; rfl)⟩
theorem Byk (k : Nat) : Qq (Ig (k : Int) 64) 0 = true := by
 unfold Ig; rw [Int.tmod_eq_emod_of_nonneg (by omega)]; simp [Qq, GI.toZ]; omega
theorem Bh0 (f : Nat) (g : UInt64) : ∀ (q Q h a : Nat) (l : LI), q + a = f → q < Q → h ≤ a → f ≤ 100000 → l.length ≤ a → Mo (f : Int) g Q (h : Int) (a : Int) l = some (l ++ pcs f g.toNat q h a, 0)
 | q, 0, h, a, l, _, hq, _, _, _ => absurd hq (Nat.not_lt_zero _)
 | 0, Q + 1, h, a, l, hf, _, _, _, _ => by
  obtain rfl : a = f := by omega
  simp only [Mo, Zp]
  rw [if_neg (by simp [By, GI.toZ]), pcs, List.append_nil]; rfl
 | q + 1, Q + 1, h, a, l, hf, hq, hh, hl, hll => by
  simp only [Mo, Zp]
  rw [if_pos (by simp [By, GI.toZ]; omega)]
  have e1 : Al (f : Int) 1 = ((f - 1 : Nat) : Int) := by rw [Bh (by omega) (by omega)]; omega
  have e2 : Ae (a : Int) 1 = ((a + 1 : Nat) : Int) := by rw [Ah (by omega) (by omega)]; omega
  have e3 : Al ((a + 1 : Nat) : Int) (h : Int) = ((a + 1 - h : Nat) : Int) := by rw [Bh (by omega) (by omega)]; omega
  have e4 : geq (a : Int) ((f - 1 : Nat) : Int) = decide (a + 1 = f) := by
   show decide ((a : Int) = ((f - 1 : Nat) : Int)) = _
   exact decide_eq_decide.2 (by omega)
  rw [e1, e2, e3, e4, Ca (by simp; omega), Aa, Byk, Brm, Aa, Bzq, pcs]
  have ih := fun h' l' => Bh0 f g q Q h' (a + 1) l' (by omega) (by omega)
  by_cases h1 : a + 1 = f
  ·rw [if_pos (decide_eq_true h1), if_pos (.inl h1), ih _ _ (Nat.le_refl _) hl (by simp; omega), List.append_assoc]; rfl
  ·rw [if_neg (by simpa using h1)]
   by_cases h2 : g.toNat.testBit (a % 64) = true
   ·rw [if_pos h2, if_pos (.inr h2), ih _ _ (Nat.le_refl _) hl (by simp; omega), List.append_assoc]; rfl
   ·rw [if_neg h2, if_neg (fun h => h.elim h1 h2), ih _ _ (by omega) hl (by omega)]
theorem Bpo (f : Nat) (g : UInt64) (hf : f ≤ 100000) : Vn (f : Int) g = some (pcs f g.toNat f 0 0, 0) := by
 unfold Vn Zy Agi
 rw [if_neg (by simp [By, Du, GI.toZ]; omega)]
 have := Bh0 f g f Au 0 0 [] (by omega) (by have := Aq; omega) (Nat.le_refl _) hf (Nat.le_refl _)
 rw [show ((0 : Nat) : Int) = 0 from rfl] at this
 rw [this]; rfl
theorem Be3 (f g : Nat) : ∀ (q h a : Nat), (pcs f g q h a).length ≤ q
 | 0, h, a => Nat.le_refl _
 | q + 1, h, a => by
  rw [pcs]
  split
  ·rw [List.length_cons]; have := Be3 f g q (a + 1) (a + 1); omega
  ·have := Be3 f g q h (a + 1); omega
end Go.Pl
set_option linter.unusedVariables false
set_option linter.unusedSimpArgs false
namespace Go.Pl
open Go Go.Lv
def Qb (ns : List Nat) : List Int := List.map Int.ofNat ns
theorem Acj (ns : List Nat) : (Qb ns).length = ns.length := by simp [Qb]
theorem Bem {ns : List Nat} {i : Nat} (h : i < ns.length) : Go.Lv.Ak (Qb ns) (i : Int) = some ((ns[i] : Nat) : Int) := by
 rw [Cq (by rw [Acj]; exact h)]
 simp [Qb]
def Ayn : List Nat → Nat | [] => 0 | n :: l => n + Ayn l
theorem Btp {ns : List Nat} {i : Nat} (h : i < ns.length) : Ayn (ns.drop i) = ns[i] + Ayn (ns.drop (i + 1)) := by
 rw [List.drop_eq_getElem_cons h]; rfl
theorem Bgs (b : LB) (ns : List Nat) (hb : b.length ≤ 10000) (hn : ns.length ≤ 10000) : ∀ (r i s q1 q2 : Nat) (o p : LB) (f c w rr n : Int) (g : LI) (a : Int) (x : LB), o.length ≤ 64 → FitD o f c w rr n g a x → SzD p g a x → p.length ≤ s → i + r = ns.length → s + Ayn (ns.drop i) ≤ b.length → r < q1 → r < q2 →
  ∃ R, Tm (Qb ns) q1 (b.drop s) (i : Int) o f c w rr n a x false 0 p g = some R ∧ Fo b (Qb ns) q2 (s : Int) (i : Int) o f c w rr n a false 0 p g x = some R
 | r, i, s, 0, q2, _, _, _, _, _, _, _, _, _, _, _, _, _, _, _, _, h, _ => absurd h (Nat.not_lt_zero _)
 | r, i, s, q1, 0, _, _, _, _, _, _, _, _, _, _, _, _, _, _, _, _, _, h => absurd h (Nat.not_lt_zero _)
 | r, i, s, q1 + 1, q2 + 1, o, p, f, c, w, rr, n, g, a, x, ho, hf, hZ, hps, hi, hs, h1, h2 => by
  simp only [Tm, Af7, Fo, Hu]
  have hx : x.length ≤ 13000000 := by have := hZ.hx; omega
  have hg : g.length ≤ 2000 := by have := hZ.hg; omega
  cases r with
  | zero =>
   have hN : ¬ (By (i : Int) (Ac (Qb ns)) = true) := by simp [By, GI.toZ, Ac, Acj]; omega
   rw [if_neg hN, if_neg hN]
   obtain ⟨t1, t2, t3, t4, t5, t6, t7, t8, t9, t10, t11, t12, e, d1, d2, _⟩ := Bjf (o := o) (p := p) (f := f) (c := c) (w := w) (r := rr) (n := n) (g := g) (a := a) (x := x) (u := false) (v := 0) (by omega) hg hx
   simp only [Ada, Al0, Rv, Acb]
   rw [d1, d2, Aa]
   exact ⟨_, rfl, rfl⟩
  | succ r =>
   have hlt : i < ns.length := by omega
   have hN : By (i : Int) (Ac (Qb ns)) = true := by simp [By, GI.toZ, Ac, Acj]; omega
   have hsd := Btp hlt
   rw [if_pos hN, if_pos hN, Bem hlt]
   simp only [Aa]
   have hlen : (b.drop s).length = b.length - s := List.length_drop
   have e1 : Ae (s : Int) ((ns[i] : Nat) : Int) = ((s + ns[i] : Nat) : Int) := by rw [Ah (by omega) (by omega)]; omega
   have c1 : Bc (b.drop s) 0 ((ns[i] : Nat) : Int) = some ((b.drop s).take ns[i]) := by rw [Dh (by omega) (by omega)]; simp
   have c2 : Bc b (s : Int) ((s + ns[i] : Nat) : Int) = some ((b.drop s).take ns[i]) := by
    rw [Aft (by omega) (by omega) (by omega)]
    simp only [Int.toNat_natCast, List.drop_take, Nat.add_sub_cancel_left]
   rw [e1, c1, c2, Aa, Aa]
   have htl : ((b.drop s).take ns[i]).length = ns[i] := by rw [List.length_take]; omega
   obtain ⟨t1, t2, t3, t4, t5, t6, t7, t8, t9, t10, t11, t12, e, d1, d2, d3, d4⟩ := Bzd ho hf hZ ((b.drop s).take ns[i]) (by omega) (by omega)
   rw [d1, d2, Aa, Aa]
   simp only [Ad6, Alx, Mg, Tt]
   by_cases he : e = 0
   ·obtain ⟨rfl, k2, k3, k4, rfl, rfl⟩ := d4 he
    have hE : ¬ (Bn e 0 = true) := by rw [he]; decide
    have e2 : Ae (i : Int) 1 = ((i + 1 : Nat) : Int) := by rw [Ah (by omega) (by omega)]; omega
    have c3 : Bc (b.drop s) ((ns[i] : Nat) : Int) (Ac (b.drop s)) = some (b.drop (s + ns[i])) := by
     rw [Cs (by omega) (by omega)]
     simp only [Int.toNat_natCast, List.drop_drop]
    rw [if_neg hE, if_neg hE, c3, Aa, Bem hlt, Aa, e1, e2]
    exact Bgs b ns hb hn r (i + 1) (s + ns[i]) q1 q2 t1 t2 t3 t4 t5 t6 t7 t8 t9 t10 ho k3 k4 (by rw [htl] at k2; omega) (by omega) (by omega) (by omega) (by omega)
   ·have hE : Bn e 0 = true := by rw [Am]; simpa using he
    rw [if_pos hE, if_pos hE]
    exact ⟨_, rfl, rfl⟩
theorem Azp (o b : LB) (ns : List Nat) (hb : b.length ≤ 10000) (hn : ns.length ≤ 10000) (hs : Ayn ns ≤ b.length) : ∃ R, Mi o b (Qb ns) = some R ∧ Cg o b (Qb ns) = some R := by
 rw [Mi, Af4, Cg, Hx, Ahv, Mk]
 by_cases ho : o.length ≤ 64
 ·have hO : ¬ (Du (Ac o) 64 = true) := by rw [As, Ac]; simp; omega
  rw [if_neg hO, Aa, Aa]
  simp only
  have hE : ¬ (Bn (0 : Int) 0 = true) := by decide
  rw [if_neg hE, if_neg hE]
  exact Bgs b ns hb hn ns.length 0 0 Au Au o [] 0 0 0 0 0 [] 0 [] ho (.new rfl rfl rfl rfl rfl rfl rfl rfl) ⟨by simp, by simp, by simp⟩ (Nat.le_refl _) (Nat.zero_add _) (by rw [List.drop_zero, Nat.zero_add]; exact hs) (by have := Aq; omega) (by have := Aq; omega)
 ·have hO : Du (Ac o) 64 = true := by rw [As, Ac]; simp; omega
  rw [if_pos hO, Aa, Aa]
  exact ⟨_, rfl, rfl⟩
theorem Bg2 (k : Nat) (hk : k < 1000000) : ∀ (r i q : Nat) (a : UInt64), r + i = k % 64 → r < q → Ll (k : Int) q a (i : Int) = some (a.toNat.testBit r)
 | r, i, 0, a, _, h => absurd h (Nat.not_lt_zero _)
 | r, i, q + 1, a, hr, hq => by
  simp only [Ll, Aa0]
  have e0 : Ig (k : Int) 64 = ((k % 64 : Nat) : Int) := by unfold Ig; rw [Int.tmod_eq_emod_of_nonneg (by omega)]; omega
  rw [e0]
  cases r with
  | zero =>
   rw [if_neg (by simp [By, GI.toZ]; omega)]
   simp only [Aav, Ai1]
   congr 1
   rw [Bcj, As3, Nat.testBit_eq_decide_div_mod_eq]
   refine decide_eq_decide.2 ⟨fun h => ?_, fun h => UInt64.toNat_inj.1 ?_⟩
   ·have := congrArg UInt64.toNat h
    rw [UInt64.toNat_mod] at this
    simpa using this
   ·rw [UInt64.toNat_mod]
    simpa using h
  | succ r =>
   rw [if_pos (by simp [By, GI.toZ]; omega)]
   have e2 : Ae (i : Int) 1 = ((i + 1 : Nat) : Int) := by rw [Ah (by omega) (by omega)]; omega
   rw [e2, Bg2 k hk r (i + 1) q _ (by omega) (by omega)]
   congr 1
   rw [Arp, UInt64.toNat_div, show (2 : UInt64).toNat = 2 from rfl, Nat.testBit_succ]
theorem Bmr (g : UInt64) (k : Nat) (hk : k < 1000000) : Aaa g (k : Int) = some (g.toNat.testBit (k % 64)) :=
 Bg2 k hk (k % 64) 0 Au g (by omega) (by have := Aq; omega)
theorem Ben (f : Nat) (g : UInt64) : ∀ (q Q h a : Nat) (l : LI), q + a = f → q < Q → h ≤ a → f ≤ 100000 → l.length ≤ a → Ft (f : Int) g Q (h : Int) (a : Int) l = some (l ++ pcs f g.toNat q h a)
 | q, 0, h, a, l, _, hq, _, _, _ => absurd hq (Nat.not_lt_zero _)
 | 0, Q + 1, h, a, l, hf, _, _, _, _ => by
  obtain rfl : a = f := by omega
  simp only [Ft, Rn]
  rw [if_neg (by simp [By, GI.toZ]), pcs, List.append_nil]; rfl
 | q + 1, Q + 1, h, a, l, hf, hq, hh, hl, hll => by
  simp only [Ft, Rn]
  rw [if_pos (by simp [By, GI.toZ]; omega)]
  have e1 : Al (f : Int) 1 = ((f - 1 : Nat) : Int) := by rw [Bh (by omega) (by omega)]; omega
  have e2 : Ae (a : Int) 1 = ((a + 1 : Nat) : Int) := by rw [Ah (by omega) (by omega)]; omega
  have e3 : Al ((a + 1 : Nat) : Int) (h : Int) = ((a + 1 - h : Nat) : Int) := by rw [Bh (by omega) (by omega)]; omega
  have e4 : geq (a : Int) ((f - 1 : Nat) : Int) = decide (a + 1 = f) := by
   show decide ((a : Int) = ((f - 1 : Nat) : Int)) = _
   exact decide_eq_decide.2 (by omega)
  rw [e1, e4, Bmr g a (by omega), Aa, pcs]
  have ih := fun h' l' => Ben f g q Q h' (a + 1) l' (by omega) (by omega)
  have st : ∀ t : Bool, Ph (Ft (f : Int) g Q) (f : Int) g (h : Int) (a : Int) l t = some (l ++ if t = true then ((a + 1 - h : Nat) : Int) :: pcs f g.toNat q (a + 1) (a + 1) else pcs f g.toNat q h (a + 1)) := by
   intro t
   simp only [Ph, Ah5]
   rw [e2, e3]
   cases t with
   | true =>
    rw [if_pos rfl, if_pos rfl, Ca (by simp; omega), Aa, ih _ _ (Nat.le_refl _) hl (by simp; omega), List.append_assoc]; rfl
   | false => rw [if_neg (by decide), if_neg (by decide), ih _ _ (by omega) hl (by omega)]
  by_cases h1 : a + 1 = f
  ·rw [if_pos (decide_eq_true h1), if_pos (.inl h1), st true, if_pos rfl]
  ·rw [if_neg (by simpa using h1), st]
   by_cases h2 : g.toNat.testBit (a % 64) = true
   ·rw [if_pos h2, if_pos (.inr h2)]
   ·rw [if_neg h2, if_neg (fun h => h.elim h1 h2)]
theorem Bmy (f : Nat) (g : UInt64) (hf : f ≤ 100000) : Rw (f : Int) g = some (pcs f g.toNat f 0 0) := by
 unfold Rw Aaj Aaw
 have := Ben f g f Au 0 0 [] (by omega) (by have := Aq; omega) (Nat.le_refl _) hf (Nat.le_refl _)
 rw [show ((0 : Nat) : Int) = 0 from rfl] at this
 rw [this]; rfl
theorem Be2 (f g : Nat) : ∀ (q h a : Nat), q + a = f → h ≤ a → (q = 0 → h = a) → ∃ ns, pcs f g q h a = Qb ns ∧ Ayn ns = f - h
 | 0, h, a, hf, hh, h0 => ⟨[], rfl, by rw [h0 rfl]; simp [Ayn]; omega⟩
 | q + 1, h, a, hf, hh, _ => by
  rw [pcs]
  by_cases h1 : a + 1 = f ∨ g.testBit (a % 64) = true
  ·rw [if_pos h1]
   obtain ⟨ns, g1, g2⟩ := Be2 f g q (a + 1) (a + 1) (by omega) (Nat.le_refl _) (fun _ => rfl)
   exact ⟨(a + 1 - h) :: ns, by rw [g1]; rfl, by rw [Ayn, g2]; omega⟩
  ·rw [if_neg h1]
   exact Be2 f g q h (a + 1) (by omega) (by omega) (fun e => absurd (.inl (by omega)) h1)
theorem Bli (o b : LB) (g : UInt64) (hb : b.length ≤ 400 ∨ 100000 < b.length) : ∃ R, Agv o b g = some R ∧ Rr o b g = some R := by
 rw [Agv, Rr]
 rcases hb with hb | hb
 ·have hN : ¬ (Du (Ac b) 100000 = true) := by rw [As, Ac]; simp; omega
  rw [if_neg hN]
  obtain ⟨ns, h1, h2⟩ := Be2 b.length g.toNat b.length 0 0 (by omega) (Nat.le_refl _) (fun _ => rfl)
  have hl := Be3 b.length g.toNat b.length 0 0
  rw [h1, Acj] at hl
  unfold Ac
  rw [Bpo _ _ (by omega), Bmy _ _ (by omega), h1, Aa, Aa]
  simp only
  obtain ⟨R, e1, e2⟩ := Azp o b ns (by omega) (by omega) (by omega)
  rw [if_neg (by decide), e1, e2, Aa]
  exact ⟨_, rfl, rfl⟩
 ·have hN : Du (Ac b) 100000 = true := by rw [As, Ac]; simp; omega
  have h1 : Vn (Ac b) g = some ([], 2) := by
   unfold Vn Zy
   rw [if_pos]
   rw [As, Ac]; simp; omega
  rw [if_pos hN, h1, Aa]
  simp only
  rw [if_pos (by decide)]
  exact ⟨_, rfl, rfl⟩
end Go.Pl
set_option linter.unusedVariables false
set_option linter.unusedSimpArgs false
namespace Go.Pl
open Go Go.Lv
def At7 (at_ w len : Nat) : Nat → Nat → Nat → List Nat
 | 0, _, fr => [len - fr]
 | r + 1, i, fr => if w.testBit i = true then (at_ + i + 1 - fr) :: At7 at_ w len r (i + 1) (at_ + i + 1) else At7 at_ w len r (i + 1) fr
theorem Bch (at_ w len : Nat) : ∀ (r i fr : Nat), fr ≤ at_ + i → at_ + i + r ≤ len → Ayn (At7 at_ w len r i fr) = len - fr
 | 0, i, fr, h, h1 => by simp [At7, Ayn]
 | r + 1, i, fr, h, h1 => by
  rw [At7]
  split
  ·rw [Ayn, Bch at_ w len r (i + 1) _ (by omega) (by omega)]; omega
  ·rw [Bch at_ w len r (i + 1) _ (by omega) (by omega)]
theorem Azg (at_ w len : Nat) : ∀ (r i fr : Nat), (At7 at_ w len r i fr).length ≤ r + 1
 | 0, i, fr => by simp [At7]
 | r + 1, i, fr => by
  rw [At7]
  split
  ·rw [List.length_cons]; have := Azg at_ w len r (i + 1) (at_ + i + 1); omega
  ·have := Azg at_ w len r (i + 1) fr; omega
theorem Ast (a b : List Nat) : Qb (a ++ b) = Qb a ++ Qb b := by simp [Qb]
theorem Cat (w i : Nat) (hw : w < 256) (hi : i < 8) : geq (Hr (Aym (w : Int) (GI.toZ (i : Int)).toNat) 1) (1 : Int) = w.testBit i := by
 have h : ∀ w : Fin 256, ∀ i : Fin 8, geq (Hr (Aym ((w : Nat) : Int) (GI.toZ ((i : Nat) : Int)).toNat) 1) (1 : Int) = (w : Nat).testBit (i : Nat) := by decide +kernel
 exact h ⟨w, hw⟩ ⟨i, hi⟩
section
variable {o b : LB} {at_ n : Nat} {h : LB} {k : Int}
def Bq3 (bk : Int → Int → Cb) (o b : LB) (at_ n : Nat) (h : LB) (k : Int) (oth : Int) (w : Nat) (L : List Nat) : Cb :=
 (Mi o b (Qb L)).bind fun (aa, ab) =>
  if (Bn ab k) then Ou bk o b (at_ : Int) (n : Int) h k (w : Int) (Ae oth 1)
  else (Fc aa h).bind fun ac => if (!ac) then Ou bk o b (at_ : Int) (n : Int) h k (w : Int) (Ae oth 1) else Ou bk o b (at_ : Int) (n : Int) h k (w : Int) oth
def Bsi (bk : Int → Int → Ap) (o b : LB) (at_ n : Nat) (k m : Int) (h : LB) (oth : Int) (w : Nat) (L : List Nat) : Ap :=
 (Cg o b (Qb L)).bind fun (aa, ad) =>
  if ((Bn ad k) || (aa != h)) then Jg bk o b (at_ : Int) (n : Int) k m h (w : Int) (Ae oth 1)
  else Jg bk o b (at_ : Int) (n : Int) k m h (w : Int) oth
theorem Bx6 (bk : Int → Int → Cb) (oth : Int) (w : Nat) (hw : w < 256) (hn : n ≤ 8) (hl : at_ + n ≤ b.length) (hb : b.length ≤ 10000) : ∀ (r i fr q : Nat) (acc : List Nat), r + i = n → fr ≤ at_ + i → acc.length ≤ i → r < q →
  Ox bk o b (at_ : Int) (n : Int) h k oth (w : Int) q (fr : Int) (i : Int) (Qb acc) = Bq3 bk o b at_ n h k oth w (acc ++ At7 at_ w b.length r i fr)
 | r, i, fr, 0, acc, _, _, _, hq => absurd hq (Nat.not_lt_zero _)
 | 0, i, fr, q + 1, acc, hi, hf, ha, hq => by
  simp only [Ox, Abp]
  rw [if_neg (by simp [By, GI.toZ]; omega)]
  simp only [Aie, Aix]
  have e1 : Al (Ac b) (fr : Int) = ((b.length - fr : Nat) : Int) := by unfold Ac; rw [Bh (by omega) (by omega)]; omega
  rw [e1, Ca (by rw [Acj]; simp; omega), Aa, Bq3, At7, Ast]
  rfl
 | r + 1, i, fr, q + 1, acc, hi, hf, ha, hq => by
  simp only [Ox, Abp]
  have e0 : Qq (i : Int) 0 = true := by simp [Qq, GI.toZ]
  have e1 : Ae (Ae (at_ : Int) (i : Int)) 1 = ((at_ + i + 1 : Nat) : Int) := by rw [show Ae (at_ : Int) (i : Int) = ((at_ + i : Nat) : Int) by rw [Ah (by omega) (by omega)]; omega, Ah (by omega) (by omega)]; omega
  have e2 : Al ((at_ + i + 1 : Nat) : Int) (fr : Int) = ((at_ + i + 1 - fr : Nat) : Int) := by rw [Bh (by omega) (by omega)]; omega
  have e3 : Ae (i : Int) 1 = ((i + 1 : Nat) : Int) := by rw [Ah (by omega) (by omega)]; omega
  rw [if_pos (by simp [By, GI.toZ]; omega), e0, Brm, Aa, Cat w i hw (by omega), e1, e2, e3, At7]
  by_cases hbit : w.testBit i = true
  ·rw [if_pos hbit, if_pos hbit, Ca (by rw [Acj]; simp; omega), Aa]
   have e4 : Qb acc ++ [((at_ + i + 1 - fr : Nat) : Int)] = Qb (acc ++ [at_ + i + 1 - fr]) := by rw [Ast]; rfl
   rw [e4, Bx6 bk oth w hw hn hl hb r (i + 1) (at_ + i + 1) q _ (by omega) (by omega) (by simp; omega) (by omega), List.append_assoc]
   rfl
  ·rw [if_neg hbit, if_neg hbit, Bx6 bk oth w hw hn hl hb r (i + 1) fr q acc (by omega) (by omega) (by omega) (by omega)]
theorem Bx7 (bk : Int → Int → Ap) (m : Int) (oth : Int) (w : Nat) (hw : w < 256) (hn : n ≤ 8) (hl : at_ + n ≤ b.length) (hb : b.length ≤ 10000) : ∀ (r i fr q : Nat) (acc : List Nat), r + i = n → fr ≤ at_ + i → acc.length ≤ i → r < q →
  Gh bk o b (at_ : Int) (n : Int) k m h oth (w : Int) q (fr : Int) (i : Int) (Qb acc) = Bsi bk o b at_ n k m h oth w (acc ++ At7 at_ w b.length r i fr)
 | r, i, fr, 0, acc, _, _, _, hq => absurd hq (Nat.not_lt_zero _)
 | 0, i, fr, q + 1, acc, hi, hf, ha, hq => by
  simp only [Gh, Nn]
  rw [if_neg (by simp [By, GI.toZ]; omega)]
  simp only [Wm, Vz]
  have e1 : Al (Ac b) (fr : Int) = ((b.length - fr : Nat) : Int) := by unfold Ac; rw [Bh (by omega) (by omega)]; omega
  rw [e1, Ca (by rw [Acj]; simp; omega), Aa, Bsi, At7, Ast]
  rfl
 | r + 1, i, fr, q + 1, acc, hi, hf, ha, hq => by
  simp only [Gh, Nn]
  have e1 : Ae (Ae (at_ : Int) (i : Int)) 1 = ((at_ + i + 1 : Nat) : Int) := by rw [show Ae (at_ : Int) (i : Int) = ((at_ + i : Nat) : Int) by rw [Ah (by omega) (by omega)]; omega, Ah (by omega) (by omega)]; omega
  have e2 : Al ((at_ + i + 1 : Nat) : Int) (fr : Int) = ((at_ + i + 1 - fr : Nat) : Int) := by rw [Bh (by omega) (by omega)]; omega
  have e3 : Ae (i : Int) 1 = ((i + 1 : Nat) : Int) := by rw [Ah (by omega) (by omega)]; omega
  have e5 : (Ad (w : Int) : UInt64).toNat = w := by rw [Zs, UInt64.toNat_ofNat']; exact Nat.mod_eq_of_lt (by omega)
  rw [if_pos (by simp [By, GI.toZ]; omega), Bmr _ i (by omega), Aa, e5, Nat.mod_eq_of_lt (by omega : i < 64), e1, e2, e3, At7]
  by_cases hbit : w.testBit i = true
  ·rw [if_pos hbit, if_pos hbit, Ca (by rw [Acj]; simp; omega), Aa]
   have e4 : Qb acc ++ [((at_ + i + 1 - fr : Nat) : Int)] = Qb (acc ++ [at_ + i + 1 - fr]) := by rw [Ast]; rfl
   rw [e4, Bx7 bk m oth w hw hn hl hb r (i + 1) (at_ + i + 1) q _ (by omega) (by omega) (by simp; omega) (by omega), List.append_assoc]
   rfl
  ·rw [if_neg hbit, if_neg hbit, Bx7 bk m oth w hw hn hl hb r (i + 1) fr q acc (by omega) (by omega) (by omega) (by omega)]
theorem Axc (hn : n ≤ 8) (hl : at_ + n ≤ b.length) (hb : b.length ≤ 10000) : ∀ (r w oth q1 q2 : Nat), r + w = 2 ^ n → oth ≤ w → r < q1 → r < q2 →
  ∃ R, Oo o b (at_ : Int) (n : Int) h k q1 (oth : Int) (w : Int) = some R ∧ Gc o b (at_ : Int) (n : Int) k ((2 ^ n : Nat) : Int) h q2 (oth : Int) (w : Int) = some R
 | r, w, oth, 0, q2, _, _, hq, _ => absurd hq (Nat.not_lt_zero _)
 | r, w, oth, q1, 0, _, _, _, hq => absurd hq (Nat.not_lt_zero _)
 | r, w, oth, q1 + 1, q2 + 1, hr, ho, h1, h2 => by
  have hp : 2 ^ n ≤ 256 := by have : 2 ^ n ≤ 2 ^ 8 := Nat.pow_le_pow_right (by omega) hn; omega
  have esh : Eh (1 : Int) (GI.toZ (n : Int)).toNat = ((2 ^ n : Nat) : Int) := by
   have hh : ∀ n : Fin 9, Eh (1 : Int) (GI.toZ ((n : Nat) : Int)).toNat = ((2 ^ (n : Nat) : Nat) : Int) := by decide +kernel
   exact hh ⟨n, by omega⟩
  simp only [Oo, Aid, Gc, Xb]
  rw [esh]
  cases r with
  | zero =>
   have hN : ¬ (By (w : Int) ((2 ^ n : Nat) : Int) = true) := by simp only [By, GI.toZ, decide_eq_true_eq]; omega
   rw [if_neg hN, if_neg hN]
   exact ⟨_, rfl, rfl⟩
  | succ r =>
   have hN : By (w : Int) ((2 ^ n : Nat) : Int) = true := by simp only [By, GI.toZ, decide_eq_true_eq]; omega
   rw [if_pos hN, if_pos hN, Aiw, Wp]
   have hP := Bx6 (o := o) (b := b) (at_ := at_) (n := n) (h := h) (k := k) (Oo o b (at_ : Int) (n : Int) h k q1) (oth : Int) w (by omega) hn hl hb n 0 0 Au [] (by omega) (by omega) (by simp) (by have := Aq; omega)
   have hR := Bx7 (o := o) (b := b) (at_ := at_) (n := n) (h := h) (k := k) (Gc o b (at_ : Int) (n : Int) k ((2 ^ n : Nat) : Int) h q2) ((2 ^ n : Nat) : Int) (oth : Int) w (by omega) hn hl hb n 0 0 Au [] (by omega) (by omega) (by simp) (by have := Aq; omega)
   rw [show ((0 : Nat) : Int) = 0 from rfl, show Qb [] = [] from rfl, List.nil_append] at hP hR
   rw [hP, hR, Bq3, Bsi]
   obtain ⟨R, a1, a2⟩ := Azp o b (At7 at_ w b.length n 0 0) (by omega) (by have := Azg at_ w b.length n 0 0; omega) (by rw [Bch _ _ _ _ _ _ (by omega) (by omega)]; omega)
   rw [a1, a2, Aa, Aa]
   have e1 : Ae (w : Int) 1 = ((w + 1 : Nat) : Int) := by rw [Ah (by omega) (by omega)]; omega
   have e2 : Ae (oth : Int) 1 = ((oth + 1 : Nat) : Int) := by rw [Ah (by omega) (by omega)]; omega
   have s0 := Axc hn hl hb r (w + 1) oth q1 q2 (by omega) (by omega) (by omega) (by omega)
   have s1 := Axc hn hl hb r (w + 1) (oth + 1) q1 q2 (by omega) (by omega) (by omega) (by omega)
   simp only [Ou, Aqa, Jg, Afo, Fc, Aa]
   rw [e1, e2]
   obtain ⟨x, f⟩ := R
   simp only
   by_cases hf : Bn f k = true
   ·rw [if_pos hf, if_pos (by rw [hf]; rfl)]; exact s1
   ·rw [if_neg hf]
    simp only [Bool.not_eq_true] at hf
    rw [hf, Bool.false_or]
    cases hx : (x == h) with
    | true =>
     have : (x != h) = false := by simp [bne, hx]
     rw [this]; exact s0
    | false =>
     have : (x != h) = true := by simp [bne, hx]
     rw [this]; exact s1
end
end Go.Pl
set_option linter.unusedVariables false
set_option linter.unusedSimpArgs false
namespace Go.Pl
open Go Go.Lv
theorem Boo {o : LB} (ho : o.length ≤ 64) : If o [] 0 0 0 0 0 [] 0 [] false 0 [] = some (o, [], 0, 0, 0, 0, 0, [], 0, [], false, 0, 0) := by
 have hO : ¬ (Du (Ac o) 64 = true) := by rw [As, Ac]; simp; omega
 rw [If, Pe, Jr, if_neg hO]
 show _ = _
 kernel_rfl
theorem Bsd {o : LB} (ho : o.length ≤ 64) : Cg o [] (Qb [0]) = Cg o [] [] := by
 have hO : ¬ (Du (Ac o) 64 = true) := by rw [As, Ac]; simp; omega
 have hE : ¬ (Bn (0 : Int) 0 = true) := by decide
 rw [Cg, Hx, Hx, Mk, if_neg hO, Aa, Aa]
 simp only
 rw [if_neg hE, if_neg hE, Mf, Mf]
 obtain ⟨q, hq⟩ : ∃ q, Au = q + 2 := ⟨Au - 2, by have := Aq; omega⟩
 rw [hq]
 simp only [Fo, Hu]
 rw [if_pos (show By (0 : Int) (Ac (Qb [0])) = true by decide), if_neg (show ¬ (By (0 : Int) (Ac ([] : LI)) = true) by decide)]
 rw [show Go.Lv.Ak (Qb [0]) (0 : Int) = some 0 from rfl]
 simp only [Aa]
 rw [show Bc ([] : LB) 0 (Ae (0 : Int) 0) = some [] by decide, Aa, Boo ho, Aa]
 simp only [Mg, Tt]
 rw [if_neg hE, show Go.Lv.Ak (Qb [0]) (0 : Int) = some 0 from rfl, Aa, if_neg (show ¬ (By (Ae (0 : Int) 1) (Ac (Qb [0])) = true) by decide)]
theorem Bhb (f : Nat) : ∀ (q h a : Nat), q + 1 + a = f → h ≤ a → pcs f 0 (q + 1) h a = [((f - h : Nat) : Int)]
 | 0, h, a, hf, hh => by
  rw [pcs, if_pos (.inl (by omega)), pcs, show a + 1 = f by omega]
 | q + 1, h, a, hf, hh => by
  rw [pcs, if_neg (by simp; omega), Bhb f q h (a + 1) (by omega) (by omega)]
theorem Blu (o b : LB) (ho : o.length ≤ 64) (hb : b.length ≤ 10000) : ∃ R, Mi o b [Ac b] = some R ∧ Cg o b (pcs b.length 0 b.length 0 0) = some R := by
 obtain ⟨R, h1, h2⟩ := Azp o b [b.length] hb (by simp) (by simp [Ayn])
 refine ⟨R, h1, ?_⟩
 by_cases h0 : b = []
 ·subst h0
  exact (Bsd ho).symm.trans h2
 ·have hl : 0 < b.length := List.length_pos_iff.2 h0
  obtain ⟨q, hq⟩ : ∃ q, b.length = q + 1 := ⟨b.length - 1, by omega⟩
  have e := Bhb b.length q 0 0 (by omega) (Nat.le_refl _)
  rw [← hq] at e
  rw [e]
  exact h2
theorem Biq {o b : LB} {at_ n : Nat} {h : LB} {k : Int} (hn : n ≤ 8) : ∀ (r i q : Nat), r + i = n → r < q → Ge o b (at_ : Int) (n : Int) k h q ((2 ^ i : Nat) : Int) (i : Int) = Xc o b (at_ : Int) (n : Int) k ((2 ^ n : Nat) : Int) h 0 0
 | r, i, 0, _, hq => absurd hq (Nat.not_lt_zero _)
 | 0, i, q + 1, hi, hq => by
  obtain rfl : i = n := by omega
  simp only [Ge, Ns]
  rw [if_neg (by simp [By, GI.toZ])]
  rfl
 | r + 1, i, q + 1, hi, hq => by
  simp only [Ge, Ns]
  have hp : 2 ^ i ≤ 256 := by have : 2 ^ i ≤ 2 ^ 8 := Nat.pow_le_pow_right (by omega) (by omega); omega
  have e1 : Bq ((2 ^ i : Nat) : Int) 2 = ((2 ^ (i + 1) : Nat) : Int) := by
   rw [Nat.pow_succ]
   generalize 2 ^ i = z at hp
   rw [Ik (by omega) (by omega)]; omega
  have e3 : Ae (i : Int) 1 = ((i + 1 : Nat) : Int) := by rw [Ah (by omega) (by omega)]; omega
  rw [if_pos (by simp [By, GI.toZ]; omega), e1, e3]
  exact Biq hn r (i + 1) q (by omega) (by omega)
theorem Bpu (o b : LB) (at_ n : Int) (hb : b.length ≤ 400 ∨ 100000 < b.length) : ∃ R, Al5 o b at_ n = some R ∧ Xi o b at_ n = some R := by
 rw [Al5, Akh, Xi, Yk]
 by_cases hL : 100000 < b.length
 ·have hN : Du (Ac b) 100000 = true := by rw [As, Ac]; simp; omega
  rw [if_pos hN, if_pos hN]
  exact ⟨_, rfl, rfl⟩
 have hN : ¬ (Du (Ac b) 100000 = true) := by rw [As, Ac]; simp; omega
 have hE : ¬ (Bn (0 : Int) 0 = true) := by decide
 rw [if_neg hN, if_neg hN, Ahv, Mk]
 by_cases ho : o.length ≤ 64
 ·have hO : ¬ (Du (Ac o) 64 = true) := by rw [As, Ac]; simp; omega
  rw [if_neg hO, Aa, Aa]
  simp only
  rw [if_neg hE, if_neg hE]
  by_cases hc : (By n 0 || Du n 8 || By at_ 0 || Du at_ (Ac b) || Du n (Al (Ac b) at_)) = true
  ·rw [if_pos hc, if_pos hc]
   exact ⟨_, rfl, rfl⟩
  ·rw [if_neg hc, if_neg hc]
   simp only [Bool.not_eq_true, Bool.or_eq_false_iff, Af, As, Ac, decide_eq_false_iff_not] at hc
   obtain ⟨⟨⟨⟨c1, c2⟩, c3⟩, c4⟩, c5⟩ := hc
   obtain ⟨a, rfl⟩ := Int.eq_ofNat_of_zero_le (show 0 ≤ at_ by omega)
   obtain ⟨m, rfl⟩ := Int.eq_ofNat_of_zero_le (show 0 ≤ n by omega)
   rw [Bh (by omega) (by omega)] at c5
   obtain ⟨R, w1, w2⟩ := Blu o b ho (by omega)
   have hcut := Bmy b.length 0 (by omega)
   rw [show (0 : UInt64).toNat = 0 from rfl] at hcut
   rw [w1, Aa, show Ac b = (b.length : Int) from rfl, hcut, Aa, w2, Aa]
   try simp only
   have e0 : Qq (m : Int) 0 = true := by simp [Qq, GI.toZ]
   rw [e0, Brm, Aa, Wj]
   have := Biq (o := o) (b := b) (at_ := a) (h := R.1) (k := R.2) (show m ≤ 8 by omega) m 0 Au (by omega) (by have := Aq; omega)
   rw [show ((2 ^ 0 : Nat) : Int) = 1 from rfl, show ((0 : Nat) : Int) = 0 from rfl] at this
   rw [this]
   have hp : 2 ^ m ≤ 256 := by have : 2 ^ m ≤ 2 ^ 8 := Nat.pow_le_pow_right (by omega) (by omega); omega
   exact Axc (by omega) (by omega) (by omega) (2 ^ m) 0 0 Au Au (by omega) (by omega) (by have := Aq; omega) (by have := Aq; omega)
 ·have hO : Du (Ac o) 64 = true := by rw [As, Ac]; simp; omega
  rw [if_pos hO, Aa, Aa]
  exact ⟨_, rfl, rfl⟩
theorem law_ChunksDecodes (a b : LB) (f : UInt64) (g h : Int) : Nd a b f g h = some true := by
 rw [Nd, Ad9, Aa]
 by_cases hl : (((Du (Ac b) 400) && (gle (Ac b) 100000)) || (Du (Ac b) 100100) || (Du (Ac a) 100)) = true
 ·rw [if_pos hl]
 ·rw [if_neg hl]
  simp only [Bool.not_eq_true, Bool.or_eq_false_iff, Bool.and_eq_false_iff, As, An3, Ac, decide_eq_false_iff_not] at hl
  have hb : b.length ≤ 400 ∨ 100000 < b.length := by omega
  obtain ⟨⟨x, y⟩, d1, d2⟩ := Bli a b f hb
  obtain ⟨⟨u, v⟩, w1, w2⟩ := Bpu a b g h hb
  rw [d1, d2, w1, w2]
  simp [Aa, Ba]
end Go.Pl
