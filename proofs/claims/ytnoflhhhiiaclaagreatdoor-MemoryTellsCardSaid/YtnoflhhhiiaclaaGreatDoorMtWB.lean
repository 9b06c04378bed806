/- A part of the proof of a statement of this seat (see the text that ends in Proof): LwSeek, LwOpen, LwFrame, LwBack, LwGot, LwWs, LwGoes, LwPol, LwRt, LwClip, LwPts, LwTrc, LwPd, LwDt, LwDu, LwNn, LwHdI, LwFit, LwFitC, LwStart, LwChk, LwChkT, LwChkF, LwPc, LwPe, LwGre, LwMt. No conditions of its own. -/
import Derived.Test.YtnoflhhhiiaclaaGreatDoorMtWA
set_option linter.unusedVariables false
set_option linter.unusedSimpArgs false
namespace Go.Pl
open Go Go.Lv
def okL : List Int → Int → Bool
 | [], _ => true
 | x :: l, left => decide (5 ≤ x ∧ x ≤ left) && okL l (left - x)
theorem Bt6 : ∀ l : List Int, (∀ x ∈ l, 5 ≤ x) → 0 ≤ l.sum
 | [], _ => by simp
 | x :: l, h => by
  have h1 := h x List.mem_cons_self
  have h2 := Bt6 l fun y hy => h y (List.mem_cons_of_mem _ hy)
  rw [List.sum_cons]; omega
theorem Avp : ∀ (l : List Int) (left : Int), 0 ≤ left → (okL l left = true ↔ (∀ x ∈ l, 5 ≤ x) ∧ l.sum ≤ left)
 | [], left, h => by simp [okL]; exact h
 | x :: l, left, h => by
  rw [okL, Bool.and_eq_true, decide_eq_true_eq, List.sum_cons]
  by_cases hx : 5 ≤ x ∧ x ≤ left
  ·rw [Avp l (left - x) (by omega)]
   constructor
   ·rintro ⟨_, h1, h2⟩
    exact ⟨fun y hy => (List.mem_cons.1 hy).elim (fun e => e ▸ hx.1) (h1 y), by omega⟩
   ·rintro ⟨h1, h2⟩
    exact ⟨hx, fun y hy => h1 y (List.mem_cons_of_mem _ hy), by omega⟩
  ·constructor
   ·rintro ⟨h1, _⟩; exact absurd h1 hx
   ·rintro ⟨h1, h2⟩
    have h3 := h1 x List.mem_cons_self
    have : 0 ≤ l.sum := Bt6 l fun y hy => h1 y (List.mem_cons_of_mem _ hy)
    omega
theorem Ayw (l : List Int) (hl : l.length ≤ 1000) : ∀ (j i q : Nat) (left : Int), i + j = l.length → j < q → 0 ≤ left → left ≤ 100000 → Qo l q left (i : Int) = some (if okL (l.drop i) left = true then 0 else 8)
 | 0, i, q + 1, left, hi, _, _, _ => by
  rw [Qo, Ab5, if_neg (by rw [Af, Ac]; simp; omega), show i = l.length by omega, List.drop_length]; rfl
 | j + 1, i, q + 1, left, hi, hq, h0, h1 => by
  have hlt : i < l.length := by omega
  rw [Qo, Ab5, if_pos (by rw [Af, Ac]; simp; omega), Cl hlt, Aa, drop_cons hlt]
  by_cases h : 5 ≤ l[i] ∧ l[i] ≤ left
  ·rw [if_neg (by simp [Af, Ap]; omega), Bw (by omega) (by omega), Ag (by omega) (by omega)]
   have ih := Ayw l hl j (i + 1) q (left - l[i]) (by omega) (by omega) (by omega) (by omega)
   rw [show ((i : Int) + 1) = ((i + 1 : Nat) : Int) by omega, ih]
   simp [okL, h]
  ·rw [if_pos (by simp [Af, Ap]; omega)]
   have : okL (l[i] :: l.drop (i + 1)) left = false := by rw [okL, decide_eq_false h]; rfl
   rw [this]; rfl
def tabB (l : List Int) : Bool := decide (1 ≤ l.length ∧ l.length ≤ 1000) && okL l 100000
theorem Bcg (l : List Int) (hl : l.length ≤ 1000) : Re l = some (if tabB l = true then 0 else 8) := by
 rw [Re, Abv, tabB]
 by_cases h : 1 ≤ l.length
 ·rw [if_neg (by rw [Az, Ap, Ac]; simp; constructor; (intro e; subst e; simp at h); omega), Aix]
  have := Ayw l hl l.length 0 Ay 100000 (by omega) (by have := As; omega) (by omega) (by omega)
  rw [List.drop_zero] at this
  rw [decide_eq_true (show 1 ≤ l.length ∧ l.length ≤ 1000 from ⟨h, hl⟩), Bool.true_and]
  exact this
 ·have : l = [] := by
   cases l with
   | nil => rfl
   | cons _ _ => simp at h
  subst this; rfl
theorem Az7 (l : List Int) (hl : l.length ≤ 1000) : ∀ (j i q : Nat) (s : Int), i + j = l.length → j < q → 0 ≤ s → s ≤ 100000 * (i : Int) → Fj l q s (i : Int) = some (if (∀ x ∈ l.drop i, 5 ≤ x ∧ x ≤ 100000) ∧ s + (l.drop i).sum ≤ 100000 then 0 else 8)
 | 0, i, q + 1, s, hi, _, _, _ => by
  rw [Fj, Md, if_neg (by rw [Af, Ac]; simp; omega), show i = l.length by omega, List.drop_length, Ro, Ab8]
  by_cases h : s ≤ 100000
  ·rw [if_neg (by rw [Ap]; simp; omega), if_pos (by simp; omega)]
  ·rw [if_pos (by rw [Ap]; simp; omega), if_neg (by simp; omega)]
 | j + 1, i, q + 1, s, hi, hq, h0, h1 => by
  have hlt : i < l.length := by omega
  rw [Fj, Md, if_pos (by rw [Af, Ac]; simp; omega), Cl hlt, Aa, drop_cons hlt]
  by_cases h5 : l[i] < 5
  ·rw [if_pos (by rw [Af]; simpa using h5), if_neg (fun h => by have := (h.1 l[i] List.mem_cons_self).1; omega)]
  ·rw [if_neg (by rw [Af]; simpa using h5), Aa]
   by_cases h6 : 100000 < l[i]
   ·rw [if_pos (by rw [Ap]; simpa using h6), if_neg (fun h => by have := (h.1 l[i] List.mem_cons_self).2; omega)]
   ·rw [if_neg (by rw [Ap]; simpa using h6), Ut, Adw, Cl hlt, Aa, Ag (by omega) (by omega), Ag (by omega) (by omega)]
    have ih := Az7 l hl j (i + 1) q (s + l[i]) (by omega) (by omega) (by omega) (by omega)
    rw [show ((i : Int) + 1) = ((i + 1 : Nat) : Int) by omega, ih]
    have e : ((∀ x ∈ l.drop (i + 1), 5 ≤ x ∧ x ≤ 100000) ∧ s + l[i] + (l.drop (i + 1)).sum ≤ 100000) ↔ ((∀ x ∈ l[i] :: l.drop (i + 1), 5 ≤ x ∧ x ≤ 100000) ∧ s + (l[i] :: l.drop (i + 1)).sum ≤ 100000) := by
     rw [List.sum_cons, List.forall_mem_cons, Int.add_assoc]
     constructor
     ·rintro ⟨a, b⟩; exact ⟨⟨by omega, a⟩, b⟩
     ·rintro ⟨⟨_, a⟩, b⟩; exact ⟨a, b⟩
    simp only [e]
theorem Bh0 : ∀ {l : List Int}, (∀ x ∈ l, 5 ≤ x) → ∀ x ∈ l, x ≤ l.sum
 | [], _, x, hx => by simp at hx
 | y :: l, h, x, hx => by
  have h1 := h y List.mem_cons_self
  have h2 := Bt6 l fun z hz => h z (List.mem_cons_of_mem _ hz)
  rw [List.sum_cons]
  rcases List.mem_cons.1 hx with rfl | hx
  ·omega
  ·have := Bh0 (l := l) (fun z hz => h z (List.mem_cons_of_mem _ hz)) x hx
   omega
theorem Bdw (l : List Int) (hl : l.length ≤ 1000) : Ec l = some (if tabB l = true then 0 else 8) := by
 rw [Ec, Lr, tabB]
 by_cases h : 1 ≤ l.length
 ·have := Az7 l hl l.length 0 Ay 0 (by omega) (by have := As; omega) (by omega) (by omega)
  rw [if_neg (by rw [Af, Ap, Ac]; simp; omega), Ux]
  refine Eq.trans this ?_
  rw [List.drop_zero, decide_eq_true (show 1 ≤ l.length ∧ l.length ≤ 1000 from ⟨h, hl⟩), Bool.true_and]
  have e : ((∀ x ∈ l, 5 ≤ x ∧ x ≤ 100000) ∧ 0 + l.sum ≤ 100000) ↔ okL l 100000 = true := by
   rw [Avp l 100000 (by omega), Int.zero_add]
   constructor
   ·rintro ⟨a, b⟩; exact ⟨fun x hx => (a x hx).1, b⟩
   ·rintro ⟨a, b⟩; exact ⟨fun x hx => ⟨a x hx, Int.le_trans (Bh0 a x hx) b⟩, b⟩
  simp only [e]
 ·have : l = [] := by
   cases l with
   | nil => rfl
   | cons _ _ => simp at h
  subst this; rfl
theorem Aoe (l : List Int) : Re l = some (if tabB l = true then 0 else 8) := by
 by_cases hl : l.length ≤ 1000
 ·exact Bcg l hl
 ·rw [Re, Abv, if_pos (by rw [Ap, Ac]; simp; omega), tabB, decide_eq_false (by omega)]; rfl
theorem Aqr (l : List Int) : Ec l = some (if tabB l = true then 0 else 8) := by
 by_cases hl : l.length ≤ 1000
 ·exact Bdw l hl
 ·rw [Ec, Lr, if_pos (by rw [Ap, Ac]; simp; omega), tabB, decide_eq_false (by omega)]; rfl
theorem Bgs (l : List Int) (hl : l.length ≤ 1000) (hx : ∀ x ∈ l, 0 ≤ x ∧ x < 4294967296) : Re l = some (if tabB l = true then 0 else 8) := Aoe l
theorem Bkp (l : List Int) (hl : l.length ≤ 1000) (hx : ∀ x ∈ l, 0 ≤ x ∧ x < 4294967296) : Ec l = some (if tabB l = true then 0 else 8) := Aqr l
def Akw (b : List UInt8) (n : Nat) : List Int := (List.range n).map fun i => (Dw (part b (4 * i) 4) : Int)
theorem Ais (b : List UInt8) (n : Nat) : (Akw b n).length = n := by simp [Akw]
theorem Bbc (b : List UInt8) (n : Nat) : Akw b (n + 1) = Akw b n ++ [(Dw (part b (4 * n) 4) : Int)] := by simp [Akw, List.range_succ]
theorem Bju (b : List UInt8) (n : Nat) (h : 4 * n ≤ b.length) : ∀ x ∈ Akw b n, 0 ≤ x ∧ x < 4294967296 := by
 intro x hx
 simp only [Akw, List.mem_map, List.mem_range] at hx
 obtain ⟨i, hi, rfl⟩ := hx
 have := Bj4 (l := part b (4 * i) 4) (by rw [Cn (by omega)]; omega)
 omega
def Nx (b : List UInt8) (n : Nat) : List Int × Int :=
 if ¬ (1 ≤ n ∧ n ≤ 1000) then ([], 2) else if b.length < 4 * n + 4 then ([], 24) else if (Gw (b.take (4 * n))).toNat ≠ Dw (part b (4 * n) 4) then ([], 22) else
 if tabB (Akw b n) = true then (Akw b n, 0) else ([], 12)
theorem Bjt {b : List UInt8} {n : Nat} (h : 1 ≤ n ∧ n ≤ 1000) (h2 : ¬ b.length < 4 * n + 4) : Bm (Ad (Gw (b.take (4 * n))) : UInt64) (leU (part b (4 * n) 4)) = decide ((Gw (b.take (4 * n))).toNat ≠ Dw (part b (4 * n) 4)) := by
 rw [Ag9, Ht, Bool.eq_iff_iff]
 simp only [bne_iff_ne, ne_eq, decide_eq_true_eq]
 rw [← UInt64.toNat_inj, Ajf (by have := (Gw (b.take (4 * n))).toNat_lt; omega), Ajp (by rw [Cn (by omega)]; omega)]
section
variable {b : List UInt8} {n : Nat}
theorem ss1 (h : ¬ (1 ≤ n ∧ n ≤ 1000)) : Nx b n = ([], 2) := by rw [Nx, if_pos h]
variable (h : 1 ≤ n ∧ n ≤ 1000)
include h
theorem ss2 (h2 : b.length < 4 * n + 4) : Nx b n = ([], 24) := by rw [Nx, if_neg (fun e => e h), if_pos h2]
variable (h2 : ¬ b.length < 4 * n + 4)
include h2
theorem ss3 (h3 : (Gw (b.take (4 * n))).toNat ≠ Dw (part b (4 * n) 4)) : Nx b n = ([], 22) := by rw [Nx, if_neg (fun e => e h), if_neg h2, if_pos h3]
theorem ss4 (h3 : (Gw (b.take (4 * n))).toNat = Dw (part b (4 * n) 4)) : Nx b n = if tabB (Akw b n) = true then (Akw b n, 0) else ([], 12) := by rw [Nx, if_neg (fun e => e h), if_neg h2, if_neg (fun e => e h3)]
end
theorem Az9 (b : List UInt8) (l8 : List Int) (n : Nat) (hn : n ≤ 1000) (h8 : l8.length = n) (hb : 4 * n + 4 ≤ b.length) (hb2 : b.length < 4611686018427387904) : ∀ (j i q : Nat), i + j = n → j < q → Tl b l8 q (i : Int) (Akw b i ++ List.replicate j 0) = Aep (Akw b n)
 | 0, i, q + 1, hi, _ => by
  obtain rfl : i = n := by omega
  rw [Tl, Ael, if_neg (by rw [Af, Ac]; simp; omega)]; simp
 | j + 1, i, q + 1, hi, hq => by
  have hlen : (Akw b i ++ List.replicate (j + 1) 0).length = i + (j + 1) := by simp [Ais]
  have ha := Bay b (4 * i) 4 (by omega) (by omega) (by omega) hb2
  rw [Tl, Ael, if_pos (by rw [Af, Ac]; simp; omega), Gt (by omega) (by omega), show (4 : Int) * (i : Int) = ((4 * i : Nat) : Int) by omega, show (4 : Int) = ((4 : Nat) : Int) from rfl, ha, Aa]
  simp only
  rw [Cl (by rw [hlen]; omega), Aa, Yh _ (by rw [hlen]; omega), Aa, Aen (by rw [Cn (by omega)]; omega), Ag (by omega) (by omega), List.replicate_succ, Apx (Ais _ _)]
  have ih := Az9 b l8 n hn h8 hb hb2 j (i + 1) q (by omega) (by omega)
  rw [Bbc] at ih
  rw [show ((i : Int) + 1) = ((i + 1 : Nat) : Int) by omega, ← ih]
  simp
theorem Bk3 (b : List UInt8) (n : Nat) (hb : b.length ≤ 100100) : Ana b (n : Int) = some (Nx b n) := by
 rw [Ana, Akp]
 by_cases h : 1 ≤ n ∧ n ≤ 1000
 ·rw [if_neg (by simp [Af, Ap]; omega), Gt (by omega) (by omega), Ag (by omega) (by omega)]
  by_cases h2 : b.length < 4 * n + 4
  ·rw [if_pos (by rw [Af, Ac]; simp; omega), ss2 h h2]
  ·have ha : Ak3 b (4 * (n : Int)) 4 = some (leU (part b (4 * n) 4), 0) := by
    rw [show (4 : Int) * (n : Int) = ((4 * n : Nat) : Int) by omega]
    exact Bay b (4 * n) 4 (by omega) (by omega) (by omega) (by omega)
   rw [if_neg (by rw [Af, Ac]; simp; omega), ha, Aa]
   simp only
   rw [Fy (by omega) (by omega), Aa, show (4 * (n : Int)).toNat = 4 * n by omega, Bhy _ (by simp; omega), Aa]
   simp only
   rw [Bjt h h2]
   by_cases h3 : (Gw (b.take (4 * n))).toNat = Dw (part b (4 * n) 4)
   ·have hlp := Az9 b (List.replicate n 0) n (by omega) (by simp) (by omega) (by omega) n 0 Ay (by omega) (by have := As; omega)
    rw [if_neg (by simpa using h3), Awr (by omega) (by omega), Aa, Ca (by rw [Az]; simp), Aa, Aj6, Int.toNat_natCast]
    refine Eq.trans (hlp) ?_
    rw [Aep, Aqu, Bgs _ (by rw [Ais]; omega) (Bju b n (by omega)), Aa, ss4 h h2 h3]
    cases tabB (Akw b n) <;> rfl
   ·rw [if_pos (by simpa using h3), ss3 h h2 h3]
 ·rw [if_pos (by simp [Af, Ap]; omega), ss1 h]
theorem Aqv (b : List UInt8) (n : Nat) (hn : n ≤ 1000) (hb : 4 * n + 4 ≤ b.length) (hb2 : b.length < 4611686018427387904) : ∀ (j i q : Nat), i + j = n → j < q → Gm b (n : Int) q (i : Int) (Akw b i) = Ni (Akw b n)
 | 0, i, q + 1, hi, _ => by
  obtain rfl : i = n := by omega
  rw [Gm, Nk, if_neg (by rw [Af]; simp)]
 | j + 1, i, q + 1, hi, hq => by
  have hc : Br b ((4 : Int) * (i : Int)) ((4 : Int) * (i : Int) + 4) = some (part b (4 * i) 4) := by
   rw [show (4 : Int) * (i : Int) = ((4 * i : Nat) : Int) by omega]
   exact Mv (4 * i) 4 (by omega)
  rw [Gm, Nk, if_pos (by rw [Af]; simp; omega), Gt (by omega) (by omega), Ag (by omega) (by omega), hc, Aa, Bdn _ (by rw [Cn (by omega)]; omega), Aa, Eu (by rw [Ais]; simp; omega), Aa,
   Aen (by rw [Cn (by omega)]; omega), Ag (by omega) (by omega), ← Bbc]
  exact Aqv b n hn hb hb2 j (i + 1) q (by omega) (by omega)
theorem Bpn (b : List UInt8) (n : Nat) (hb : b.length ≤ 100100) : Vm b (n : Int) = some (Nx b n) := by
 rw [Vm, Vz]
 by_cases h : 1 ≤ n ∧ n ≤ 1000
 ·rw [if_neg (by simp [Af, Ap]; omega), Gt (by omega) (by omega), Ag (by omega) (by omega)]
  by_cases h2 : b.length < 4 * n + 4
  ·rw [if_pos (by rw [Af, Ac]; simp; omega), ss2 h h2]
  ·have hc : Br b ((4 : Int) * (n : Int)) ((4 : Int) * (n : Int) + 4) = some (part b (4 * n) 4) := by
    rw [show (4 : Int) * (n : Int) = ((4 * n : Nat) : Int) by omega]
    exact Mv (4 * n) 4 (by omega)
   have hs : Bm (leU (part b (4 * n) 4)) (Ad (Gw (b.take (4 * n))) : UInt64) = decide ((Gw (b.take (4 * n))).toNat ≠ Dw (part b (4 * n) 4)) := by
    rw [← Bjt h h2, Ag9, Ag9, Bool.eq_iff_iff]; simp only [bne_iff_ne, ne_eq]; exact not_congr eq_comm
   rw [if_neg (by rw [Af, Ac]; simp; omega), hc, Aa, Fy (by omega) (by omega), Aa, show (4 * (n : Int)).toNat = 4 * n by omega, Bdn _ (by rw [Cn (by omega)]; omega), Aa, Bpr _ (by simp; omega), Aa, hs]
   by_cases h3 : (Gw (b.take (4 * n))).toNat = Dw (part b (4 * n) 4)
   ·have hlp := Aqv b n (by omega) (by omega) (by omega) n 0 Ay (by omega) (by have := As; omega)
    rw [if_neg (by simpa using h3), Wv, Wu, Wh]
    refine Eq.trans hlp ?_
    rw [Ni, Aew, Bkp _ (by rw [Ais]; omega) (Bju b n (by omega)), Aa, ss4 h h2 h3]
    cases tabB (Akw b n) <;> rfl
   ·rw [if_pos (by simpa using h3), ss3 h h2 h3]
 ·rw [if_pos (by simp [Af, Ap]; omega), ss1 h]
theorem Bnw {b : List UInt8} {n : Nat} (h : (Nx b n).2 = 0) : Nx b n = (Akw b n, 0) ∧ 1 ≤ n ∧ n ≤ 1000 ∧ 4 * n + 4 ≤ b.length ∧ (∀ x ∈ Akw b n, 5 ≤ x) ∧ (Akw b n).sum ≤ 100000 := by
 unfold Nx at h ⊢
 split at h; · simp at h
 rename_i c1; rw [if_neg c1]
 split at h; · simp at h
 rename_i c2; rw [if_neg c2]
 split at h; · simp at h
 rename_i c3; rw [if_neg c3]
 split at h
 ·rename_i c4
  rw [if_pos c4]
  have c4' := c4
  rw [tabB, Bool.and_eq_true, Avp _ _ (by omega)] at c4'
  exact ⟨rfl, by omega, by omega, by omega, c4'.2.1, c4'.2.2⟩
 ·simp at h
end Go.Pl
set_option linter.unusedVariables false
set_option linter.unusedSimpArgs false
namespace Go.Pl
open Go Go.Lv
def hdr (b : List UInt8) : List UInt8 := b.drop (Km b).1.toNat
theorem Bmk (A K : Nat) (h : A ≤ 200000) (hk : K ≤ 1000) : Ae (Ae (A : Int) (Bb 4 (K : Int))) 4 = ((A + 4 * K + 4 : Nat) : Int) := by
 rw [Gt (by omega) (by omega), Ag (a := (A : Int)) (by omega) (by omega), Ag (by omega) (by omega)]; omega
end Go.Pl
set_option linter.unusedVariables false
set_option linter.unusedSimpArgs false
namespace Go.Pl
open Go Go.Lv
theorem Bkr (l : List Int) (i : Nat) : (l.take i).sum + (l.drop i).sum = l.sum := by
 conv => rhs; rw [← List.take_append_drop i l, List.sum_append]
theorem Aqw {l : List Int} {i : Nat} (h : i < l.length) : (l.take (i + 1)).sum = (l.take i).sum + l[i] := by
 rw [All h, List.sum_append]; simp
theorem Ay4 {g n : Nat} (hg : 1 ≤ g) (hn : 1 ≤ n) {x : Int} (h : x ∈ framesL g n) : ∃ m : Nat, x = m ∧ 1 ≤ m ∧ m ≤ n := by
 have hmul := Nat.div_mul_le_self (n - 1) g
 rw [framesL, List.mem_append] at h
 rcases h with h | h
 ·rw [List.mem_replicate] at h
  have h1 : 1 ≤ (n - 1) / g := Nat.pos_of_ne_zero h.1
  have := Nat.mul_le_mul_right g h1
  exact ⟨g, h.2, hg, by omega⟩
 ·rw [List.mem_singleton] at h
  exact ⟨_, h, by omega, by omega⟩
theorem Atg {f c w r n : Nat} (h : shapeB f c w r n = true) : (1 ≤ c ∧ c ≤ 6) ∧ Ce (w : Int) ∧ (1 ≤ r ∧ r ≤ 1048576) ∧ 1 ≤ n ∧ (f = 1 ∨ f = 2) := by
 simp only [shapeB, decide_eq_true_eq] at h
 refine ⟨h.2.1, ?_, h.2.2.2.1, h.2.2.2.2, h.1⟩
 rcases h.2.2.1 with rfl | rfl | rfl
 ·exact .inl rfl
 ·exact .inr (.inl rfl)
 ·exact .inr (.inr rfl)
end Go.Pl
set_option linter.unusedVariables false
set_option linter.unusedSimpArgs false
namespace Go.Pl
open Go Go.Lv
end Go.Pl
set_option linter.unusedVariables false
set_option linter.unusedSimpArgs false
namespace Go.Pl
open Go Go.Lv
theorem At6 {a b : Nat} (h : a < 9223372036854775808) : Bq (a : Int) (b : Int) = ((a / b : Nat) : Int) := by
 have : a / b ≤ a := Nat.div_le_self _ _
 rw [Af1, Int.tdiv_eq_ediv_of_nonneg (by omega), ← Int.natCast_ediv]
 generalize a / b = k at *
 exact Bu (by omega) (by omega)
end Go.Pl
set_option linter.unusedVariables false
set_option linter.unusedSimpArgs false
namespace Go.Pl
open Go Go.Lv
variable (b : List UInt8)
theorem Bns {bits : Int} (h : ¬ Ce bits) : Wy bits = some (0, 0, 2) := by
 have h8 : ¬ bits = 8 := fun e => h (.inl e)
 have h16 : ¬ bits = 16 := fun e => h (.inr (.inl e))
 have h24 : ¬ bits = 24 := fun e => h (.inr (.inr e))
 rw [Wy, Ah4, if_neg (by rw [Az]; simpa using h8), if_neg (by rw [Az]; simpa using h16), Ai0, Aoi, if_neg (by rw [Az]; simpa using h24)]
end Go.Pl
set_option linter.unusedVariables false
set_option linter.unusedSimpArgs false
namespace Go.Pl
open Go Go.Lv
theorem Bhk {c : Nat} {w : Nat} (hc : c ≤ 6) (hw : Ce (w : Int)) : Bq (Bb (c : Int) (w : Int)) 8 = ((c * wB (w : Int) : Nat) : Int) := by
 have h : w = 8 ∨ w = 16 ∨ w = 24 := by unfold Ce at hw; omega
 have : c = 0 ∨ c = 1 ∨ c = 2 ∨ c = 3 ∨ c = 4 ∨ c = 5 ∨ c = 6 := by omega
 rcases h with rfl | rfl | rfl <;> rcases this with rfl | rfl | rfl | rfl | rfl | rfl | rfl <;> rfl
theorem Buf {w : Nat} (hw : Ce (w : Int)) : 8 * wB (w : Int) = w ∧ w ≤ 24 := by
 have h : w = 8 ∨ w = 16 ∨ w = 24 := by unfold Ce at hw; omega
 rcases h with rfl | rfl | rfl <;> exact ⟨rfl, by omega⟩
theorem Bto {t c w : Nat} (ht : t ≤ 4000) (hc : c ≤ 6) (hw : Ce (w : Int)) : Bq (Bb (Bb (t : Int) (c : Int)) (w : Int)) 8 = ((t * (c * wB (w : Int)) : Nat) : Int) := by
 obtain ⟨h1, h2⟩ := Buf hw
 have e1 : (t : Int) * (c : Int) = ((t * c : Nat) : Int) := by simp
 have b1 : t * c ≤ 4000 * 6 := Nat.mul_le_mul ht hc
 have b2 : t * c * w ≤ 24000 * 24 := Nat.mul_le_mul b1 h2
 rw [Gt (a := (t : Int)) (by rw [e1]; omega) (by rw [e1]; omega), e1, Gt (by rw [← Int.natCast_mul]; omega) (by rw [← Int.natCast_mul]; omega), ← Int.natCast_mul, show (8 : Int) = ((8 : Nat) : Int) from rfl, At6 (by omega)]
 congr 1
 generalize wB (w : Int) = W at *
 subst h1
 rw [Nat.mul_left_comm, Nat.mul_div_cancel_left _ (by omega), Nat.mul_assoc]
end Go.Pl
set_option linter.unusedVariables false
set_option linter.unusedSimpArgs false
namespace Go.Pl
open Go Go.Lv
end Go.Pl
set_option linter.unusedVariables false
set_option linter.unusedSimpArgs false
namespace Go.Pl
open Go Go.Lv
end Go.Pl
set_option linter.unusedVariables false
set_option linter.unusedSimpArgs false
namespace Go.Pl
open Go Go.Lv
theorem Bo5 {seg p : List UInt8} (hs : seg.length = 8) (hp : p.length ≤ 64) : Ag2 seg p = some (seg == leB (Afr p).toNat 8, 0) := by
 rw [Ag2, Bky p hp, Aa]
 simp only
 rw [if_neg (by rw [Al, Al, Ac, Ac, Pg, hs]; simp), Kv, Aa]
end Go.Pl
set_option linter.unusedVariables false
set_option linter.unusedSimpArgs false
namespace Go.Pl
open Go Go.Lv
def Bbx (b : List UInt8) : List Int := framesL (longN (f3 (hdr b))) (f4 (hdr b))
end Go.Pl
set_option linter.unusedVariables false
set_option linter.unusedSimpArgs false
namespace Go.Pl
open Go Go.Lv
end Go.Pl
set_option linter.unusedVariables false
set_option linter.unusedSimpArgs false
namespace Go.Pl
open Go Go.Lv
end Go.Pl
set_option linter.unusedVariables false
set_option linter.unusedSimpArgs false
namespace Go.Pl
open Go Go.Lv
theorem Bcj {c r n : Nat} (h : fitB c r n = true) : 1 ≤ (framesL (longN r) n).length ∧ (framesL (longN r) n).length ≤ 1000 := by
 simp only [fitB, decide_eq_true_eq] at h
 rw [Au8]; exact ⟨Nat.le_add_left _ _, h.2⟩
end Go.Pl
set_option linter.unusedVariables false
set_option linter.unusedSimpArgs false
namespace Go.Pl
open Go Go.Lv
theorem Bi8 (g : Nat) : ∀ K : Nat, (List.replicate K (g : Int)).sum = ((K * g : Nat) : Int)
 | 0 => by simp
 | K + 1 => by
  rw [List.replicate_succ, List.sum_cons, Bi8 g K, Nat.succ_mul]; omega
theorem Bff {g n : Nat} (hn : 1 ≤ n) : (framesL g n).sum = (n : Int) := by
 have h := Nat.div_mul_le_self (n - 1) g
 rw [framesL, List.sum_append, Bi8]
 simp only [List.sum_cons, List.sum_nil]
 omega
theorem Bhj : ∀ {l : List Int}, (∀ x ∈ l, 0 ≤ x) → 0 ≤ l.sum
 | [], _ => by simp
 | x :: l, h => by
  have h1 := h x List.mem_cons_self
  have h2 := Bhj (l := l) fun y hy => h y (List.mem_cons_of_mem _ hy)
  rw [List.sum_cons]; omega
theorem Ar6 {l : List Int} (h : ∀ x ∈ l, 0 ≤ x) (i : Nat) : 0 ≤ (l.take i).sum ∧ (l.take i).sum ≤ l.sum := by
 have h1 := Bhj (l := l.take i) fun x hx => h x (List.mem_of_mem_take hx)
 have h2 := Bhj (l := l.drop i) fun x hx => h x (List.mem_of_mem_drop hx)
 have := Bkr l i
 omega
def Ano (c w : Nat) (fr : List Int) (k : Nat) : Int := (((fr.take k).sum.toNat * (c * wB (w : Int)) : Nat) : Int)
section
variable {f c w r n : Nat} (h1 : shapeB f c w r n = true) (h2 : fitB c r n = true)
include h1 h2
theorem Am1 : (∀ x ∈ framesL (longN r) n, 0 ≤ x) ∧ (framesL (longN r) n).sum = (n : Int) ∧ n ≤ 4000 := by
 obtain ⟨hc, hw, hr, hn, _⟩ := Atg h1
 have hfit : n ≤ 4000 / c := by simp only [fitB, decide_eq_true_eq] at h2; exact h2.1
 have hn4 : n ≤ 4000 := by have := Nat.div_le_self 4000 c; omega
 refine ⟨fun x hx => ?_, Bff hn, hn4⟩
 obtain ⟨m, rfl, _⟩ := Ay4 (Ahl r) hn hx
 omega
end
end Go.Pl
set_option linter.unusedVariables false
set_option linter.unusedSimpArgs false
namespace Go.Pl
open Go Go.Lv
theorem Btx (p : List UInt8) (N a k : Nat) : 0 ≤ (rcS p N a k).2.2 := by
 unfold rcS
 repeat' split
 all_goals simp
theorem Buj (p : List UInt8) (N a k l : Nat) : 0 ≤ (dgS p N a k l).2.2 := by
 have h := Btx p N (a + 1) l
 unfold dgS
 repeat' split
 all_goals simp [h]
theorem Bjr (ch : Nat) (p : List UInt8) (N : Nat) : ∀ (j a : Nat) (out : List UInt32), 0 ≤ (Xp ch p N j a out).2.2
 | 0, a, out => by rw [Xp]; exact Int.le_refl _
 | j + 1, a, out => by
  rw [Xp]
  split
  ·exact Buj ..
  ·exact Bjr ch p N j _ _
theorem Bot (b : List UInt8) : 0 ≤ Va b := by
 unfold Va
 repeat' split
 all_goals simp
theorem Bbf (a : List Int32) (b : Int) : ∀ (q : Nat) (i e : Int), Bd a b q i = some e → 0 ≤ e
 | 0, _, _, h => by rw [Bd] at h; cases h
 | q + 1, i, e, h => by
  rw [Bd, Cr] at h
  split at h
  ·cases hg : Aj a i with
   | none => rw [hg] at h; cases h
   | some g =>
    rw [hg, Aa] at h
    split at h
    ·cases h; decide
    ·rw [Aa] at h
     split at h
     ·cases h; decide
     ·exact Bbf a b q _ e h
  ·cases h; decide
theorem Bge {bits : Int} {a : List Int32} {e : Int} (h : Au bits a = some e) : 0 ≤ e := by
 rw [Au, Fh] at h
 cases hg : Ez bits with
 | none => rw [hg] at h; cases h
 | some g =>
  rw [hg, Aa] at h
  split at h
  ·cases h; decide
  ·split at h
   ·cases h; decide
   ·exact Bbf a _ _ _ e h
theorem Blv {bits : Int} {ch n : Nat} {t : List Int32} {b : List UInt8} (hb : Ce bits) (ht : t.length = 16) (h1 : 1 ≤ ch) (h6 : ch ≤ 6) (n1 : 1 ≤ n) (n2 : n ≤ 4000 / ch) {l : List Int32} {e : Int}
  (h : Hh (ch : Int) bits t (n : Int) b = some (l, e)) : 0 ≤ e := by
 have hn : n * ch ≤ 4000 := by
  have := Nat.mul_le_mul_right ch n2
  have h2 := Nat.div_mul_le_self 4000 ch
  omega
 have hq4 := Bi3 h1 h6
 generalize 4000 / ch = mm at *
 have hh := Aq2 bits
 have hasked : Im (ch : Int) bits (n : Int) = some 0 := by
  rw [Im, Gc, if_neg (by simp [Af, Ap]; omega), Aum hb, Aa, if_neg (by rw [Az]; simp; omega), Aa, if_neg (by simp [Al, Af]; omega), Ca (by rw [Al]; simp; omega), Aa, hq4, if_neg (by rw [Ap]; simp; omega)]
 rw [Hh, Kh, hasked, Aa, if_neg (by rw [Al]; simp), Awm, Aa] at h
 by_cases hs : Va b ≠ 0
 ·rw [if_pos (by rw [Al]; simpa using hs)] at h
  simp only [Aa] at h
  cases h
  exact Bot b
 have hs0 : Va b = 0 := by simpa using hs
 have hlen := Beb hs0
 have e4 : Ao (Ac b) 4 = ((b.length - 4 : Nat) : Int) := by rw [Ac, Bw (by omega) (by omega)]; omega
 rw [if_neg (by rw [Al, hs0]; simp), e4, Fy (by omega) (by omega), Aa, show ((b.length - 4 : Nat) : Int).toNat = b.length - 4 from rfl] at h
 have hpl : (b.take (b.length - 4)).length = b.length - 4 := by simp
 generalize b.take (b.length - 4) = p at *
 have hr := Bjm (N := 8 * p.length) (p := p) rfl (by omega) h1 h6 hn
 have hV := Bjr ch p (8 * p.length) (n * ch) 0 []
 have hat := Av1 (ch := ch) (p := p) (N := 8 * p.length) (n * ch) 0 [] (by omega)
 rw [hr, Aa] at h
 generalize Xp ch p (8 * p.length) (n * ch) 0 [] = V at *
 obtain ⟨v, at', er⟩ := V
 simp only at *
 by_cases he : er ≠ 0
 ·rw [if_pos he] at h
  simp only at h
  rw [El, De, if_pos (by rw [Al]; simpa using he)] at h
  cases h
  exact hV
 have he0 : er = 0 := by simpa using he
 have hvl := hat.2.2 he0
 simp only [List.length_nil, Nat.zero_add] at hvl
 rw [if_neg he] at h
 simp only at h
 rw [El, De] at h
 split at h
 ·cases h
  decide
 ·rw [if_neg (by decide)] at h
  have hm : v.length % ch = 0 := by rw [hvl]; exact Nat.mul_mod_left n ch
  obtain ⟨l', e', g1, g2, g3, g4, g5⟩ := Asf (v := v) hb ht h1 h6 (by omega) hm
  rw [g1, Aa, g2, Aa] at h
  have := Bge g4
  by_cases hl : e' ≠ 0
  ·rw [if_pos hl] at h; cases h; exact this
  ·rw [if_neg hl] at h; cases h; decide
end Go.Pl
set_option linter.unusedVariables false
set_option linter.unusedSimpArgs false
namespace Go.Pl
open Go Go.Lv
def shI (f c w r n : Int) : Bool := decide ((f = 1 ∨ f = 2) ∧ (1 ≤ c ∧ c ≤ 6) ∧ (w = 8 ∨ w = 16 ∨ w = 24) ∧ (1 ≤ r ∧ r ≤ 1048576) ∧ 1 ≤ n)
theorem Bpq (f c w r n : Int) : Oh f c w r n = some (shI f c w r n) := by
 have e2 : Kx f c w r n = some (decide ((f = 1 ∨ f = 2) ∧ (1 ≤ c ∧ c ≤ 6) ∧ (1 ≤ r ∧ r ≤ 1048576) ∧ 1 ≤ n)) := by
  rw [Kx, Aef]
  congr 1
  rw [Bool.eq_iff_iff]
  simp only [Az, Ap, Xx, Bool.and_eq_true, Bool.or_eq_true, beq_iff_eq, decide_eq_true_eq]
  omega
 have g : ∀ k : Int, geq w k = decide (w = k) := fun k => by rw [Az, Bool.eq_iff_iff]; simp
 rw [Oh, Xs, e2, g, g, g, shI]
 by_cases h8 : w = 8
 ·subst h8; simp
 ·by_cases h16 : w = 16
  ·subst h16; simp
  ·by_cases h24 : w = 24
   ·subst h24; simp
   ·simp [h8, h16, h24]
theorem Bse (f c w r n : Int) : Ew f c w r n = some (shI f c w r n) := by
 rw [Ew, shI]
 simp only [Az, Ci, Xx, Bool.and_eq_true, Bool.or_eq_true, beq_iff_eq, decide_eq_true_eq, Bool.false_and]
 split
 ·rename_i h
  congr 1
  rw [Bool.eq_iff_iff]
  simp only [Bool.and_eq_true, Bool.or_eq_true, beq_iff_eq, decide_eq_true_eq]
  omega
 ·rename_i h
  congr 1
  symm
  rw [decide_eq_false_iff_not]
  omega
structure HdI (f c w r n : Int) (F C W R N : Nat) : Prop where
 ef : f = F
 ec : c = C
 ew : w = W
 er : r = R
 en : n = N
 shape : shapeB F C W R N = true
 fit : fitB C R N = true
theorem Bmc (f c w r n : Int) : (∃ F C W R N : Nat, HdI f c w r n F C W R N) ∨ (Ge f c w r n = some 8 ∧ Eh f c w r n = some ([], 8)) := by
 by_cases h : shI f c w r n = true
 ·have h' := h
  simp only [shI, decide_eq_true_eq] at h'
  obtain ⟨F, rfl⟩ := Int.eq_ofNat_of_zero_le (show 0 ≤ f by omega)
  obtain ⟨C, rfl⟩ := Int.eq_ofNat_of_zero_le (show 0 ≤ c by omega)
  obtain ⟨W, rfl⟩ := Int.eq_ofNat_of_zero_le (show 0 ≤ w by omega)
  obtain ⟨R, rfl⟩ := Int.eq_ofNat_of_zero_le (show 0 ≤ r by omega)
  obtain ⟨N, rfl⟩ := Int.eq_ofNat_of_zero_le (show 0 ≤ n by omega)
  have hs : shapeB F C W R N = true := by simp only [shapeB, decide_eq_true_eq]; omega
  by_cases hf : fitB C R N = true
  ·exact .inl ⟨F, C, W, R, N, rfl, rfl, rfl, rfl, rfl, hs, hf⟩
  ·have hf' : fitB C R N = false := by simpa using hf
   refine .inr ⟨?_, ?_⟩
   ·rw [Ge, Aq8, Aa, hs, if_neg (by simp), Ayc hs, Aa, hf']; rfl
   ·rw [Eh, Xv, Aor, Aa, hs, if_neg (by simp), Ats hs, Aa, hf']; rfl
 ·have h' : shI f c w r n = false := by simpa using h
  refine .inr ⟨?_, ?_⟩
  ·rw [Ge, Bse, Aa, h']; rfl
  ·rw [Eh, Xv, Bpq, Aa, h']; rfl
theorem HdI.check {f c w r n : Int} {F C W R N : Nat} (h : HdI f c w r n F C W R N) : Ge f c w r n = some 0 := by
 obtain ⟨rfl, rfl, rfl, rfl, rfl, hs, hf⟩ := h
 rw [Ge, Aq8, Aa, hs, if_neg (by simp), Ayc hs, Aa, hf]; rfl
theorem HdI.Bbx {f c w r n : Int} {F C W R N : Nat} (h : HdI f c w r n F C W R N) : Eh f c w r n = some (framesL (longN R) N, 0) := by
 obtain ⟨rfl, rfl, rfl, rfl, rfl, hs, hf⟩ := h
 exact Be6 hs hf
theorem HdI.num {f c w r n : Int} {F C W R N : Nat} (h : HdI f c w r n F C W R N) : (F = 1 ∨ F = 2) ∧ (1 ≤ C ∧ C ≤ 6) ∧ (W = 8 ∨ W = 16 ∨ W = 24) ∧ (1 ≤ R ∧ R ≤ 1048576) ∧ 1 ≤ N ∧ N ≤ 4000 / C ∧ N ≤ 4000 ∧ (N - 1) / longN R + 1 ≤ 1000 := by
 obtain ⟨rfl, rfl, rfl, rfl, rfl, hs, hf⟩ := h
 simp only [shapeB, decide_eq_true_eq] at hs
 simp only [fitB, decide_eq_true_eq] at hf
 have hd : 4000 / C ≤ 4000 := Nat.div_le_self _ _
 omega
theorem HdI.Btz {f c w r n : Int} {F C W R N : Nat} (h : HdI f c w r n F C W R N) : Cy f c w r n = some (framesL (longN R) N) := by
 have hn := h.num
 obtain ⟨rfl, rfl, rfl, rfl, rfl, hs, hf⟩ := h
 rw [Cy, Ax6 (by omega) (by omega) (by omega)]; rfl
end Go.Pl
set_option linter.unusedVariables false
set_option linter.unusedSimpArgs false
namespace Go.Pl
open Go Go.Lv
section
variable {f c w r n : Nat} (h1 : shapeB f c w r n = true) (h2 : fitB c r n = true)
include h1 h2
theorem Baa (k : Nat) (hk : k ≤ (framesL (longN r) n).length) : ∀ (j i q : Nat), i + j = k → j < q → Gg (k : Int) (f : Int) (c : Int) (w : Int) (r : Int) (n : Int) (framesL (longN r) n) q (((framesL (longN r) n).take i).sum) (i : Int) = some (Ano c w (framesL (longN r) n) k)
 | 0, i, q + 1, hi, _ => by
  obtain ⟨hc, hw, hr, hn, _⟩ := Atg h1
  obtain ⟨g1, g2, g3⟩ := Am1 h1 h2
  have b := Ar6 g1 i
  obtain rfl : i = k := by omega
  have hb : ((framesL (longN r) n).take i).sum.toNat * (c * wB (w : Int)) ≤ 4000 * (6 * 3) := Nat.mul_le_mul (by omega) (Nat.mul_le_mul hc.2 (Bji (w : Int)).2)
  rw [Gg, Nu, if_neg (by rw [Af]; simp), Wk, Afc, Ld, Aa]
  simp only
  rw [Hk, Bhk hc.2 hw, Aa, Ano]
  have e : ((framesL (longN r) n).take i).sum = ((((framesL (longN r) n).take i).sum.toNat : Nat) : Int) := by omega
  rw [e, Gt (by rw [← Int.natCast_mul]; omega) (by rw [← Int.natCast_mul]; omega), ← Int.natCast_mul]; rfl
 | j + 1, i, q + 1, hi, hq => by
  obtain ⟨g1, g2, g3⟩ := Am1 h1 h2
  have hK := Bcj h2
  have hlt : i < (framesL (longN r) n).length := by omega
  have b1 := Ar6 g1 i
  have b2 := Ar6 g1 (i + 1)
  have e := Aqw hlt
  have ih := Baa k hk j (i + 1) q (by omega) (by omega)
  rw [e] at ih
  rw [Gg, Nu, if_pos (by rw [Af]; simp; omega), Cl hlt, Aa, Aa, Ag (by omega) (by omega), Ag (by omega) (by omega)]
  exact ih
theorem Bok (k : Nat) (hk : k ≤ (framesL (longN r) n).length) : Nw (f : Int) (c : Int) (w : Int) (r : Int) (n : Int) (k : Int) = some (Ano c w (framesL (longN r) n) k) := by
 have hK := Bcj h2
 obtain ⟨g1, g2, g3⟩ := Am1 h1 h2
 obtain ⟨hc, hw, hr, hn, _⟩ := Atg h1
 have h := Baa h1 h2 k hk k 0 Ay (by omega) (by have := As; omega)
 rw [List.take_zero, List.sum_nil] at h
 rw [Nw, Wj, Cy, Ax6 hr.2 hn g3, Aa, Aa]
 exact h
theorem Bht {i : Nat} (hlt : i < (framesL (longN r) n).length) : Ae (Ano c w (framesL (longN r) n) i) (Bq (Bb (Bb ((framesL (longN r) n)[i]) (c : Int)) (w : Int)) 8) = Ano c w (framesL (longN r) n) (i + 1) := by
 obtain ⟨hc, hw, hr, hn, _⟩ := Atg h1
 obtain ⟨g1, g2, g3⟩ := Am1 h1 h2
 have b1 := Ar6 g1 i
 have b2 := Ar6 g1 (i + 1)
 have e := Aqw hlt
 have h0 := g1 _ (List.getElem_mem hlt)
 have e2 : (framesL (longN r) n)[i] = (((framesL (longN r) n)[i].toNat : Nat) : Int) := by omega
 have hb : ((framesL (longN r) n).take (i + 1)).sum.toNat * (c * wB (w : Int)) ≤ 4000 * (6 * 3) := Nat.mul_le_mul (by omega) (Nat.mul_le_mul hc.2 (Bji (w : Int)).2)
 rw [e2, Bto (by omega) hc.2 hw, Ano, Ano]
 have e3 : ((framesL (longN r) n).take (i + 1)).sum.toNat = ((framesL (longN r) n).take i).sum.toNat + (framesL (longN r) n)[i].toNat := by omega
 rw [e3, Nat.add_mul] at hb ⊢
 rw [Ag (by omega) (by omega)]
 omega
theorem Azx (a : Nat) (ha : a ≤ (framesL (longN r) n).length) (o p : LB) (m : LI) (a' : Int) (N : LB) (u : Bool) (v : Int) : ∀ (j i q : Nat), i + j = a → j < q →
  Mt ((framesL (longN r) n).take a) o p (f : Int) (c : Int) (w : Int) (r : Int) (n : Int) m a' N u v q (Ano c w (framesL (longN r) n) i) (i : Int) = some (gle (Ac N) (Ano c w (framesL (longN r) n) a))
 | 0, i, q + 1, hi, _ => by
  obtain rfl : i = a := by omega
  rw [Mt, Zl, if_neg (by rw [Af, Ac, List.length_take]; simp; omega), Agd, Anu]
 | j + 1, i, q + 1, hi, hq => by
  have hK := Bcj h2
  have hlt : i < (framesL (longN r) n).length := by omega
  have hlt2 : i < ((framesL (longN r) n).take a).length := by rw [List.length_take]; omega
  have ih := Azx a ha o p m a' N u v j (i + 1) q (by omega) (by omega)
  rw [Mt, Zl, if_pos (by rw [Af, Ac]; simp; omega), Cl hlt2, Aa, List.getElem_take, Bht h1 h2 hlt, Ag (by omega) (by omega)]
  exact ih
end
end Go.Pl
set_option linter.unusedVariables false
set_option linter.unusedSimpArgs false
namespace Go.Pl
open Go Go.Lv
theorem Asv {α : Type} (l : List α) : geq (Ac l) 0 = decide (l = []) := by
 cases l with
 | nil => rfl
 | cons x l => rw [Az, Ac, List.length_cons, decide_eq_false (by simp), beq_eq_false_iff_ne]; omega
theorem Ajv {α : Type} (l : List α) : Cu (Ac l) 0 = decide (l ≠ []) := by
 cases l with
 | nil => rfl
 | cons x l => rw [Ap, Ac, List.length_cons, decide_eq_true (by simp)]; simp
inductive FitD (o : LB) (f c w r n : Int) (g : LI) (a : Int) (x : LB) : Prop
 | new : f = 0 → c = 0 → w = 0 → r = 0 → n = 0 → g = [] → a = 0 → x = [] → FitD o f c w r n g a x
 | head (F C W R N : Nat) : HdI f c w r n F C W R N → (o == ([] : LB)) = decide (F = 1) → g = [] → a = 0 → x = [] → FitD o f c w r n g a x
 | tab (F C W R N A : Nat) : HdI f c w r n F C W R N → (o == ([] : LB)) = decide (F = 1) → tabB g = true → g.length = (framesL (longN R) N).length → a = A → A ≤ g.length → FitD o f c w r n g a x
theorem Bg7 (f c w r n : Int) (o : LB) : Ws f c w r n o = Ih f c w r n o := rfl
theorem Bhn (o p : LB) (f c w r n : Int) (g : LI) (a : Int) (x : LB) (u : Bool) (v : Int) :
  (Xl o p f c w r n g a x u v = some false ∧ Lb o p f c w r n g a x u v = some false) ∨
  (Xl o p f c w r n g a x u v = some true ∧ Lb o p f c w r n g a x u v = Bo o p f c w r n g a x u v ∧ FitD o f c w r n g a x) := by
 rw [Xl, Agg, Lb, Tz]
 by_cases hz : f = 0 ∧ c = 0 ∧ w = 0 ∧ r = 0 ∧ n = 0
 ·obtain ⟨rfl, rfl, rfl, rfl, rfl⟩ := hz
  rw [if_pos (by decide), if_pos (by decide), Asv, Asv, Ajv, Ajv]
  by_cases h : g = [] ∧ a = 0 ∧ x = []
  ·obtain ⟨rfl, rfl, rfl⟩ := h
   exact .inr ⟨rfl, by rw [if_neg (by decide)], .new rfl rfl rfl rfl rfl rfl rfl rfl⟩
  ·refine .inl ⟨?_, ?_⟩
   ·congr 1
    rw [Bool.eq_false_iff]
    intro e
    simp only [Bool.and_eq_true, decide_eq_true_eq, Az, beq_iff_eq] at e
    exact h ⟨e.1.1, e.1.2, e.2⟩
   ·rw [if_pos]
    simp only [Bool.or_eq_true, decide_eq_true_eq, Al, bne_iff_ne]
    by_cases e1 : g = []
    ·by_cases e2 : a = 0
     ·exact .inr fun e3 => h ⟨e1, e2, e3⟩
     ·exact .inl (.inr e2)
    ·exact .inl (.inl e1)
 ·have hz2 : ¬ (((geq f 0) && ((geq c 0) && ((geq w 0) && ((geq r 0) && ((geq n 0) && true))))) = true) := by
   simp only [Bool.and_eq_true, Az, beq_iff_eq, and_true]
   exact hz
  rw [if_neg hz2, if_neg hz2]
  rcases Bmc f c w r n with ⟨F, C, W, R, N, h⟩ | ⟨e1, e2⟩
  ·rw [h.Bbx, h.check, Aa, Aa, Bg7]
   simp only
   rw [if_neg (by decide), if_neg (by decide), Ih]
   have hf : geq f 1 = decide (F = 1) := by rw [h.ef, Az, Bool.eq_iff_iff]; simp; omega
   rw [hf]
   by_cases hp : (o == ([] : LB)) = decide (F = 1)
   ·rw [if_neg (by rw [hp]; simp), Aa, Aa, if_neg (by decide), if_neg (by decide), Afy, Af5, Tu, Uw, Asv, Asv, Ajv]
    by_cases hg : g = []
    ·subst hg
     rw [if_pos (by simp), if_pos (by simp)]
     by_cases h' : a = 0 ∧ x = []
     ·obtain ⟨rfl, rfl⟩ := h'
      exact .inr ⟨rfl, by rw [if_neg (by decide)], .head F C W R N h hp rfl rfl rfl⟩
     ·refine .inl ⟨?_, ?_⟩
      ·congr 1
       rw [Bool.eq_false_iff]
       intro e
       simp only [Bool.and_eq_true, decide_eq_true_eq, Az, beq_iff_eq] at e
       exact h' e
      ·rw [if_pos]
       simp only [Bool.or_eq_true, decide_eq_true_eq, Al, bne_iff_ne]
       by_cases e2 : a = 0
       ·exact .inr fun e3 => h' ⟨e2, e3⟩
       ·exact .inl e2
    ·rw [if_neg (by simpa using hg), if_neg (by simpa using hg), Aoe, Aqr, Aa, Aa]
     by_cases ht : tabB g = true
     ·rw [if_pos ht, h.Btz]
      simp only [Aa]
      by_cases hl : g.length = (framesL (longN R) N).length ∧ 0 ≤ a ∧ a ≤ g.length
      ·obtain ⟨hl, ha0, ha1⟩ := hl
       obtain ⟨A, rfl⟩ := Int.eq_ofNat_of_zero_le ha0
       have hA : A ≤ (framesL (longN R) N).length := by omega
       rw [if_neg (by simp [Al, Af, Ap, Ac]; omega), if_neg (by decide), if_neg (by simp [Al, Af, Ap, Ac]; omega), Fy (by omega) (by omega), Aa, Af9]
       have hh := h
       clear hf
       obtain ⟨rfl, rfl, rfl, rfl, rfl, hs, hf⟩ := hh
       have hlp := Azx hs hf A hA o p g (A : Int) x u v A 0 Ay (by omega) (by have := As; have := Bcj hf; omega)
       have h0 : Ano C W (framesL (longN R) N) 0 = 0 := by rw [Ano, List.take_zero, List.sum_nil]; simp
       rw [h0, show ((0 : Nat) : Int) = 0 from rfl] at hlp
       rw [show ((A : Int)).toNat = A from rfl, hlp, Bok hs hf A hA, Aa]
       by_cases hx : (x.length : Int) ≤ Ano C W (framesL (longN R) N) A
       ·refine .inr ⟨?_, ?_, .tab F C W R N A h hp ht hl rfl (by omega)⟩
        ·rw [Xx, Ac, decide_eq_true hx]
        ·rw [if_neg (by rw [Ap, Ac]; simp; omega)]
       ·refine .inl ⟨?_, ?_⟩
        ·rw [Xx, Ac, decide_eq_false hx]
        ·rw [if_pos (by rw [Ap, Ac]; simp; omega)]
      ·refine .inl ⟨?_, ?_⟩
       ·rw [if_pos (by simp [Al, Af, Ap, Ac]; omega)]
       ·rw [if_neg (by decide), if_pos (by simp [Al, Af, Ap, Ac]; omega)]
     ·refine .inl ⟨?_, ?_⟩
      ·rw [if_neg ht, if_pos (by simp [Al])]
      ·rw [if_neg ht, if_pos (by decide), if_pos (by simp)]
   ·rw [if_pos (by simpa using hp), Aa, Aa, if_pos (by decide), if_pos (by decide)]
    exact .inl ⟨rfl, rfl⟩
  ·rw [e1, e2, Aa, Aa]
   simp only
   rw [if_pos (by decide), if_pos (by decide)]
   exact .inl ⟨rfl, rfl⟩
end Go.Pl
set_option linter.unusedVariables false
set_option linter.unusedSimpArgs false
namespace Go.Pl
open Go Go.Lv
theorem Bnx (b : List UInt8) (n : Int) : 0 ≤ (Ans b n).2 := by
 unfold Ans
 repeat' split
 all_goals simp
theorem Bo4 (b : List UInt8) : 0 ≤ (Ajl b).2 := by
 unfold Ajl Aym
 repeat' split
 all_goals first | exact Bnx _ _ | simp
theorem Bks (b : List UInt8) : 0 ≤ (Oa b).2 := by
 unfold Oa
 repeat' split
 all_goals simp
theorem Bpa (b : List UInt8) : 0 ≤ (Dj b).2 := by
 unfold Dj
 split
 ·exact Bo4 b
 ·exact Bks b
theorem Baq (b : List UInt8) : ∀ (j p : Nat), 0 ≤ (Cc b j p).2
 | 0, p => by simp [Cc]
 | j + 1, p => by
  rw [Cc]
  split
  ·simp
  ·split
   ·exact Bpa _
   ·split
    ·simp
    ·split
     ·simp
     ·exact Baq b j _
theorem Bl5 (b : List UInt8) : 0 ≤ (Km b).2 := by
 unfold Km Bgr
 split
 ·simp
 ·exact Baq b _ _
theorem Boh (b : List UInt8) : 0 ≤ (Lh b).2.2.2.2.2 := by
 unfold Lh
 repeat' split
 all_goals simp
theorem Boi (b : List UInt8) (n : Nat) : 0 ≤ (Nx b n).2 := by
 unfold Nx
 repeat' split
 all_goals simp
def ID3 : List UInt8 := [73, 68, 51]
def APX : List UInt8 := [65, 80, 69, 84, 65, 71, 69, 88]
def Apa (b s : List UInt8) : Bool := decide (b.length < s.length) && (b == s.take b.length)
theorem Bab (b s : List UInt8) : Jw b s = some (Apa b s) := by
 rw [Jw, Apa]
 by_cases h : b.length < s.length
 ·rw [if_pos (by rw [Af, Ac, Ac]; simp; omega), Ac, Fy (by omega) (by omega), Aa, decide_eq_true h, Bool.true_and]; rfl
 ·rw [if_neg (by rw [Af, Ac, Ac]; simp; omega), decide_eq_false h]; rfl
theorem Bnv (b s : List UInt8) (h : b.length < s.length) : Hb s b = some (Apa b s) := by
 rw [Hb, Em, if_pos (by rw [Ci, Ac, Ac]; simp; omega), Ac, Fy (by omega) (by omega), Aa, Aa, Apa, decide_eq_true h, Bool.true_and, Int.toNat_natCast]
 congr 1
 rw [Bool.eq_iff_iff, beq_iff_eq, beq_iff_eq]
 exact eq_comm
theorem Bbb {b s : List UInt8} (h : ¬ b.length < s.length) : Apa b s = false := by rw [Apa, decide_eq_false h]; rfl
theorem Btw (b : List UInt8) : Xn b = some (Apa b ID3 || Apa b APX) := by
 obtain ⟨q, hq⟩ : ∃ q, Ay = q + 3 := ⟨Ay - 3, by have := As; omega⟩
 have l3 : Hs b (q + 1) 2 = some false := by rw [Hs, Tj, if_neg (by decide)]; rfl
 have l2 : Hs b (q + 2) 1 = some (Apa b APX) := by
  rw [Hs, Tj, if_pos (by decide), show Aj ([([73, 68, 51] : LB), ([65, 80, 69, 84, 65, 71, 69, 88] : LB)] : List LB) 1 = some APX from rfl, Aa, show Ae (1 : Int) 1 = 2 from rfl]
  by_cases h : b.length < APX.length
  ·rw [if_pos (by rw [Af, Ac, Ac]; simp; omega), Bnv b APX h, Aa]
   by_cases hb : Apa b APX = true
   ·rw [if_pos hb, hb]
   ·rw [if_neg hb, l3]; simpa using hb
  ·rw [if_neg (by rw [Af, Ac, Ac]; simp; omega), l3, Bbb h]
 rw [Xn, Af3, Agf, hq, Hs, Tj, if_pos (by decide), show Aj ([([73, 68, 51] : LB), ([65, 80, 69, 84, 65, 71, 69, 88] : LB)] : List LB) 0 = some ID3 from rfl, Aa, show Ae (0 : Int) 1 = 1 from rfl]
 by_cases h : b.length < ID3.length
 ·rw [if_pos (by rw [Af, Ac, Ac]; simp; omega), Bnv b ID3 h, Aa]
  by_cases hb : Apa b ID3 = true
  ·rw [if_pos hb, hb]; rfl
  ·rw [if_neg hb, l2, Bool.eq_false_iff.2 hb]; rfl
 ·rw [if_neg (by rw [Af, Ac, Ac]; simp; omega), l2, Bbb h]; rfl
def stS (b : List UInt8) : Int × Int × Int × Int × Int × Int × Int :=
 if (Km b).2 = 24 then (0, 0, 0, 0, 0, 0, -1) else if (Km b).2 ≠ 0 then (0, 0, 0, 0, 0, 0, (Km b).2) else
 if (Apa (hdr b) ID3 || Apa (hdr b) APX) = true then (0, 0, 0, 0, 0, 0, -1) else
 if (Lh (hdr b)).2.2.2.2.2 = 24 then (0, 0, 0, 0, 0, 0, -1) else ((Km b).1 + 22, (Lh (hdr b)).1, (Lh (hdr b)).2.1, (Lh (hdr b)).2.2.1, (Lh (hdr b)).2.2.2.1, (Lh (hdr b)).2.2.2.2.1, (Lh (hdr b)).2.2.2.2.2)
theorem Bhm (b : List UInt8) (hb : b.length ≤ 100000) : Iu b = some (stS b) := by
 rw [Iu, Qm, Bcf b (by omega), Aa, stS]
 have hok := Bak (b := b)
 simp only
 by_cases h1 : (Km b).2 = 24
 ·rw [if_pos (by rw [Az]; simpa using h1), if_pos h1]
 rw [if_neg (by rw [Az]; simpa using h1), if_neg h1]
 by_cases h2 : (Km b).2 ≠ 0
 ·rw [if_pos (by rw [Al]; simpa using h2), if_pos h2]
 have h0 : (Km b).2 = 0 := by simpa using h2
 obtain ⟨k1, k2, k3⟩ := hok h0
 rw [if_neg (by rw [Al, h0]; simp), if_neg h2, Jf (by omega) (by omega), Aa, Bab, Aa, show b.drop (Km b).1.toNat = hdr b from rfl, show ([73, 68, 51] : LB) = ID3 from rfl, show ([65, 80, 69, 84, 65, 71, 69, 88] : LB) = APX from rfl]
 by_cases h3 : Apa (hdr b) ID3 = true
 ·rw [if_pos h3, h3, Bool.true_or, if_pos rfl]
 rw [if_neg h3, Bab, Aa, Bool.eq_false_iff.2 h3, Bool.false_or]
 by_cases h4 : Apa (hdr b) APX = true
 ·rw [if_pos h4, if_pos h4]
 have hl : (hdr b).length ≤ b.length := by rw [hdr, List.length_drop]; omega
 rw [if_neg h4, if_neg h4, Qq, Aav, Bm1 _ (by omega), Aa]
 simp only
 by_cases h5 : (Lh (hdr b)).2.2.2.2.2 = 24
 ·rw [if_pos (by rw [Az]; simpa using h5), if_pos h5]
 ·rw [if_neg (by rw [Az]; simpa using h5), if_neg h5, Ag (by omega) (by omega)]
end Go.Pl
set_option linter.unusedVariables false
set_option linter.unusedSimpArgs false
namespace Go.Pl
open Go Go.Lv
def Bhc (g a : LB) (k p o u v : Int) (f : LI) (b : Int) (h : LB) (m : Bool) (n : Int) : Option Int :=
if (geq k 0) then
(Rf a).bind fun (al, ba) =>
if (geq ba 24) then
Cv true 0
else
if (Bm ba 0) then
(Aq ba).bind fun (bx, bz) =>
Cv bx bz
else
(Br a al (Ac a)).bind fun da =>
(Xn da).bind fun an =>
if an then
Cv true 0
else
(Br a al (Ac a)).bind fun db =>
(Aau db).bind fun (ae, af, aa, ag, ab, bb) =>
if (geq bb 24) then
Cv true 0
else
if (Bm bb 0) then
(Aq bb).bind fun (dc, dd) =>
Cv dc dd
else
(
(Br a (Ae al 22) (Ac a)).bind fun ak =>
(
Vq g ak ae af aa ag ab b m n f h))
else
if (geq (Ac f) 0) then
if (geq k 2) then
if (Cj (Ac a) 8) then
Ha true 0
else
Vj g a k p o u v b m n f h
else
Gv g a k p o u v b m n f h 0
else
if (Cj b (Ac f)) then
(Aj f b).bind fun _ =>
(Aj f b).bind fun w =>
if (Cj (Ac a) w) then
Fa true 0
else
(Ahg g).bind fun (ap, am) =>
if (Bm am 0) then
(Aq am).bind fun (de, df) =>
Fa de df
else
(Eh k p o u v).bind fun (ad, dg) =>
if ((Bm dg 0) || (Nc b (Ac ad))) then
(Aq 8).bind fun (dh, di) =>
Fa dh di
else
Vb w g a k p o u v b m n ap ad f h
else
if (Cu (Ac a) 4000) then
(Aq 38).bind fun (dj, bf) =>
Bc ((dj == true) && ((geq bf 0) && true))
else
Uz
theorem Arh (d : Bool) (e : Int) : Cv d e = Bc (d && geq e 0) := by
 rw [Cv, Aca]; cases d <;> simp
theorem Aza (d : Bool) (e : Int) : Ha d e = Bc (d && geq e 0) := by
 rw [Ha, Acy]; cases d <;> simp
theorem Bhw (d : Bool) (e : Int) : Fa d e = Bc (d && geq e 0) := by
 rw [Fa, Aci]; cases d <;> simp
theorem rp4 {o p : LB} {f c w r n : Int} {g : LI} {a : Int} {x : LB} {u : Bool} {v : Int} {t1 t2 : LB} {t3 t4 t5 t6 t7 : Int} {t8 : LI} {t9 : Int} {t10 : LB} {t11 : Bool} {t12 e : Int}
  (h : Bv o p f c w r n g a x u v = some (t1, t2, t3, t4, t5, t6, t7, t8, t9, t10, t11, t12, e)) : Bo o p f c w r n g a x u v = some (geq e (-1)) := by
 rw [Bo, Adz, h, Aa]
theorem Bcq {e : Int} (h : 0 ≤ e) : geq e (-1) = false := by rw [Az, beq_eq_false_iff_ne]; omega
theorem Bkb (o p : LB) (c w r n : Int) (g : LI) (a : Int) (x : LB) (u : Bool) (v : Int) (hp : p.length ≤ 100000) :
  ∃ B : Bool, Bhc o p 0 c w r n g a x u v = Bc B ∧ Bo o p 0 c w r n g a x u v = some B := by
 have hT : Bv o p 0 c w r n g a x u v = Bv o p 0 c w r n g a x u v := rfl
 conv at hT => rhs; rw [Bv, Gn, if_pos (by decide), Bhm p hp, Aa, stS]
 have hfn := Bl5 p
 have hrn := Boh (hdr p)
 rw [Bhc, if_pos (by decide), Av5 p (by omega), Aa]
 have hok := Bak (b := p)
 simp only at hT ⊢
 by_cases h1 : (Km p).2 = 24
 ·rw [if_pos h1] at hT
  simp only at hT
  rw [if_pos (by decide)] at hT
  rw [if_pos (by rw [Az]; simpa using h1), Arh]
  exact ⟨_, rfl, rp4 hT⟩
 rw [if_neg h1] at hT
 rw [if_neg (by rw [Az]; simpa using h1)]
 by_cases h2 : (Km p).2 ≠ 0
 ·rw [if_pos h2] at hT
  simp only at hT
  rw [if_pos (by rw [Al]; simpa using h2)] at hT
  rw [if_pos (by rw [Al]; simpa using h2), Aq, Aa]
  simp only
  rw [Arh]
  exact ⟨_, rfl, (rp4 hT).trans (by rw [Bcq hfn]; rfl)⟩
 have h0 : (Km p).2 = 0 := by simpa using h2
 obtain ⟨k1, k2, k3⟩ := hok h0
 have hl : (hdr p).length = p.length - (Km p).1.toNat := by rw [hdr, List.length_drop]
 rw [if_neg h2] at hT
 rw [if_neg (by rw [Al, h0]; simp), Jf (by omega) (by omega), Aa, Aa, show p.drop (Km p).1.toNat = hdr p from rfl, Btw, Aa]
 by_cases h3 : (Apa (hdr p) ID3 || Apa (hdr p) APX) = true
 ·rw [if_pos h3] at hT ⊢
  simp only at hT
  rw [if_pos (by decide)] at hT
  rw [Arh]
  exact ⟨_, rfl, rp4 hT⟩
 rw [if_neg h3] at hT ⊢
 rw [Bl0 _ (by omega), Aa]
 by_cases h5 : (Lh (hdr p)).2.2.2.2.2 = 24
 ·rw [if_pos h5] at hT
  simp only at hT
  rw [if_pos (by decide)] at hT
  rw [if_pos (by rw [Az]; simpa using h5), Arh]
  exact ⟨_, rfl, rp4 hT⟩
 rw [if_neg h5] at hT
 rw [if_neg (by rw [Az]; simpa using h5)]
 simp only at hT
 by_cases h6 : (Lh (hdr p)).2.2.2.2.2 ≠ 0
 ·rw [if_pos (by rw [Al]; simpa using h6)] at hT ⊢
  rw [Aq, Aa]
  simp only
  rw [Arh]
  exact ⟨_, rfl, (rp4 hT).trans (by rw [Bcq hrn]; rfl)⟩
 have h7 : (Lh (hdr p)).2.2.2.2.2 = 0 := by simpa using h6
 have h22 := (Boa h7).2.1
 rw [if_neg (by rw [Al, h7]; simp), Jf (by omega) (by omega), Aa, Vy, Afe, Ih] at hT
 rw [if_neg (by rw [Al, h7]; simp), Ag (by omega) (by omega), Jf (by omega) (by omega), Aa, Vq, Ab0, Ws]
 simp only
 by_cases h8 : ((o == ([] : LB)) != geq (Lh (hdr p)).1 1) = true
 ·rw [if_pos h8] at hT ⊢
  rw [Aa] at hT ⊢
  rw [Aq, Aa]
  simp only
  rw [Arh]
  exact ⟨_, rfl, rp4 hT⟩
 ·rw [if_neg h8] at hT ⊢
  rw [Aa] at hT ⊢
  rw [Aq, Aa]
  simp only
  rw [Arh]
  exact ⟨_, rfl, rp4 hT⟩
end Go.Pl
set_option linter.unusedVariables false
set_option linter.unusedSimpArgs false
namespace Go.Pl
open Go Go.Lv
section
variable {f c w r n : Int} {F C W R N : Nat} (hd : HdI f c w r n F C W R N)
include hd
theorem HdI.ne0 : ¬ (geq f 0 = true) := by
 have := hd.num
 rw [Az, beq_iff_eq, hd.ef]; omega
theorem Bti (o p : LB) (hp : p.length ≤ 100000) (A : Nat) (hA : A ≤ p.length) (a : Int) (x : LB) (u : Bool) (v : Int) :
  (Gv o p f c w r n a u v [] x (A : Int) = Bc (decide ((Nx (p.drop A) (framesL (longN R) N).length).2 = 24))) ∧
  Hg p f c w r n (A : Int) = some (if (Nx (p.drop A) (framesL (longN R) N).length).2 = 24 then (0, [], -1) else ((A : Int) + (4 * ((Nx (p.drop A) (framesL (longN R) N).length).1.length : Int) + 4), (Nx (p.drop A) (framesL (longN R) N).length).1, (Nx (p.drop A) (framesL (longN R) N).length).2)) ∧
  ((Nx (p.drop A) (framesL (longN R) N).length).2 = 0 → (A : Int) + (4 * ((Nx (p.drop A) (framesL (longN R) N).length).1.length : Int) + 4) ≤ p.length) := by
 have hs := Bk3 (p.drop A) (framesL (longN R) N).length (by rw [List.length_drop]; omega)
 have hr := Bpn (p.drop A) (framesL (longN R) N).length (by rw [List.length_drop]; omega)
 have hok := Bnw (b := p.drop A) (n := (framesL (longN R) N).length)
 have hlen : (Nx (p.drop A) (framesL (longN R) N).length).1.length ≤ 1000 := by
  unfold Nx
  repeat' split
  all_goals simp [Ais]
  all_goals omega
 have hfit : (Nx (p.drop A) (framesL (longN R) N).length).2 = 0 → (A : Int) + (4 * ((Nx (p.drop A) (framesL (longN R) N).length).1.length : Int) + 4) ≤ p.length := by
  intro h0
  obtain ⟨k1, k2, k3, k4, _⟩ := hok h0
  rw [k1]
  simp only [Ais]
  rw [List.length_drop] at k4
  omega
 refine ⟨?_, ?_, hfit⟩
 ·rw [Gv, Ach, hd.Bbx, Aa]
  simp only
  rw [if_neg (by decide), Jf (by omega) (by omega), Aa, Int.toNat_natCast, Ac, hs, Aa]
  generalize Nx (p.drop A) (framesL (longN R) N).length = z at *
  obtain ⟨z1, z2⟩ := z
  simp only at *
  by_cases h1 : z2 = 24
  ·rw [if_pos (by rw [Az]; simpa using h1), Aza, decide_eq_true h1]; rfl
  rw [if_neg (by rw [Az]; simpa using h1), decide_eq_false h1]
  by_cases h2 : z2 ≠ 0
  ·rw [if_pos (by rw [Al]; simpa using h2), Aq, Aa]
   simp only
   rw [Aza]; rfl
  ·have h0 : z2 = 0 := by simpa using h2
   have := hfit h0
   rw [if_neg (by rw [Al, h0]; simp), Ac, Bmk A z1.length (by omega) (by omega), Jf (by omega) (by omega), Aa, Aza]; rfl
 ·rw [Hg, Rk, Jf (by omega) (by omega), Aa, hd.Btz, Aa, Ac, Int.toNat_natCast, hr, Aa]
  generalize Nx (p.drop A) (framesL (longN R) N).length = z at *
  obtain ⟨z1, z2⟩ := z
  simp only at *
  rw [Ta, Abo]
  by_cases h1 : z2 = 24
  ·rw [if_pos (by rw [Az]; simpa using h1), if_pos h1]
  ·rw [if_neg (by rw [Az]; simpa using h1), if_neg h1, Ac, Bmk A z1.length (by omega) (by omega)]
   congr 2
theorem Br7 (o p : LB) (ho : o.length ≤ 64) (hp : p.length ≤ 100000) (a : Int) (x : LB) (u : Bool) (v : Int) :
  ∃ B : Bool, Bhc o p f c w r n [] a x u v = Bc B ∧ Bo o p f c w r n [] a x u v = some B := by
 have hT : Bv o p f c w r n [] a x u v = Bv o p f c w r n [] a x u v := rfl
 conv at hT => rhs; rw [Bv, Gn, if_neg hd.ne0, Nt, Iy, if_pos (by decide), Ph, Rt]
 rw [Bhc, if_neg hd.ne0, if_pos (by decide)]
 have fin : ∀ A : Nat, A ≤ p.length → Bv o p f c w r n [] a x u v = (Hg p f c w r n (A : Int)).bind (fun (ag, ak, w1) =>
   if (Bm w1 0) then some (o, p, f, c, w, r, n, [], a, x, u, v, w1) else (Br p ag (Ac p)).bind fun al => some (o, al, f, c, w, r, n, ak, a, x, u, v, 0)) →
   ∃ B : Bool, Gv o p f c w r n a u v [] x (A : Int) = Bc B ∧ Bo o p f c w r n [] a x u v = some B := by
  intro A hA hT
  obtain ⟨t1, t2, t3⟩ := Bti hd o p hp A hA a x u v
  have hnn := Boi (p.drop A) (framesL (longN R) N).length
  rw [t2, Aa] at hT
  rw [t1]
  generalize Nx (p.drop A) (framesL (longN R) N).length = z at *
  obtain ⟨z1, z2⟩ := z
  simp only at *
  by_cases h1 : z2 = 24
  ·rw [if_pos h1] at hT
   simp only at hT
   rw [if_pos (by decide)] at hT
   exact ⟨_, rfl, (rp4 hT).trans (by rw [decide_eq_true h1]; rfl)⟩
  rw [if_neg h1] at hT
  simp only at hT
  by_cases h2 : z2 ≠ 0
  ·rw [if_pos (by rw [Al]; simpa using h2)] at hT
   exact ⟨_, rfl, (rp4 hT).trans (by rw [decide_eq_false h1, Bcq hnn])⟩
  ·have h0 : z2 = 0 := by simpa using h2
   have := t3 h0
   rw [if_neg (by rw [Al, h0]; simp), Jf (by omega) (by omega), Aa] at hT
   exact ⟨_, rfl, (rp4 hT).trans (by rw [decide_eq_false h1]; rfl)⟩
 by_cases h2 : geq f 2 = true
 ·rw [if_pos h2] at hT ⊢
  by_cases h8 : p.length < 8
  ·rw [if_pos (by rw [Af, Ac]; simp; omega)] at hT ⊢
   rw [Aa] at hT
   simp only at hT
   rw [if_pos (by decide)] at hT
   rw [Aza]
   exact ⟨_, rfl, rp4 hT⟩
  ·rw [if_neg (by rw [Af, Ac]; simp; omega)] at hT ⊢
   have h8' : (p.take 8).length = 8 := by rw [List.length_take]; omega
   rw [Fy (by omega) (by omega), Aa, Bkf o ho, Aa] at hT
   rw [Vj, Abm, Fy (by omega) (by omega), Aa, show (8 : Int).toNat = 8 from rfl, Bo5 h8' ho, Aa]
   rw [show (8 : Int).toNat = 8 from rfl] at hT
   simp only
   rw [Abl, Ab7, if_neg (by decide)]
   by_cases he : (p.take 8 == leB (Afr o).toNat 8) = true
   ·rw [if_neg (by rw [bne, he]; decide)] at hT
    rw [if_neg (by rw [he]; decide)]
    exact fin 8 (by omega) hT
   ·have he' : (p.take 8 == leB (Afr o).toNat 8) = false := by simpa using he
    rw [if_pos (by rw [bne, he']; decide), Aa] at hT
    simp only at hT
    rw [if_pos (by decide)] at hT
    rw [if_pos (by rw [he']; decide), Aq, Aa]
    simp only
    rw [Aza]
    exact ⟨_, rfl, rp4 hT⟩
 ·rw [if_neg h2] at hT ⊢
  exact fin 0 (by omega) hT
end
end Go.Pl
set_option linter.unusedVariables false
set_option linter.unusedSimpArgs false
namespace Go.Pl
open Go Go.Lv
theorem Bl9 {f c w r n : Int} {F C W R N : Nat} (hd : HdI f c w r n F C W R N) (o p : LB) (ho : o.length ≤ 64) (hp : p.length ≤ 100000) (g : LI) (hg : tabB g = true) (hl : g.length = (framesL (longN R) N).length) (A : Nat) (hA : A ≤ g.length) (x : LB) (hx : x.length ≤ 100000) (u : Bool) (v : Int) :
  ∃ B : Bool, Bhc o p f c w r n g (A : Int) x u v = Bc B ∧ Bo o p f c w r n g (A : Int) x u v = some B := by
 have hc := hd.ec
 subst hc
 have hg' := hg
 rw [tabB, Bool.and_eq_true, decide_eq_true_eq, Avp g 100000 (by omega)] at hg'
 obtain ⟨⟨g1, g2⟩, g5, g6⟩ := hg'
 have hT : Bv o p f (C : Int) w r n g (A : Int) x u v = Bv o p f (C : Int) w r n g (A : Int) x u v := rfl
 conv at hT => rhs; rw [Bv, Gn, if_neg hd.ne0, Nt, Iy, if_neg (by rw [Az, Ac]; simp; intro e; subst e; simp at g1)]
 rw [Bhc, if_neg hd.ne0, if_neg (by rw [Az, Ac]; simp; intro e; subst e; simp at g1)]
 by_cases hA2 : A = g.length
 ·subst hA2
  rw [if_pos (by rw [Az, Ac]; simp)] at hT
  rw [if_neg (by rw [Af, Ac]; simp)]
  by_cases h4 : 4000 < p.length
  ·rw [if_pos (by rw [Ap, Ac]; simp; omega)] at hT ⊢
   rw [Aq, Aa]
   simp only
   exact ⟨_, rfl, rp4 hT⟩
  ·rw [if_neg (by rw [Ap, Ac]; simp; omega)] at hT ⊢
   rw [Uz, Acr]
   exact ⟨_, rfl, rp4 hT⟩
 ·have hlt : A < g.length := by omega
  have h5 := g5 g[A] (List.getElem_mem hlt)
  have hsum := Bh0 g5 g[A] (List.getElem_mem hlt)
  rw [if_neg (by rw [Az, Ac]; simp; omega), Pe, Rm, Cl hlt, Aa] at hT
  rw [if_pos (by rw [Af, Ac]; simp; omega), Cl hlt, Aa, Aa]
  by_cases hw : (p.length : Int) < g[A]
  ·rw [if_pos (by rw [Af, Ac]; simpa using hw)] at hT ⊢
   rw [Aa] at hT
   simp only at hT
   rw [if_pos (by decide)] at hT
   rw [Bhw]
   exact ⟨_, rfl, rp4 hT⟩
  rw [if_neg (by rw [Af, Ac]; simpa using hw)] at hT ⊢
  have hnum := hd.num
  have hlt2 : A < (framesL (longN R) N).length := by omega
  obtain ⟨m, hm, m1, m2⟩ := Ay4 (Ahl R) hnum.2.2.2.2.1 (List.getElem_mem hlt2)
  have hb : Ce w := by rw [hd.ew]; unfold Ce; omega
  obtain ⟨xs, e, d1, d2, d3, d4⟩ := Bfd (bits := w) (ch := C) (n := m) (t := Ard o) (p.take g[A].toNat) hb (Av9 o) hnum.2.1.1 hnum.2.1.2 m1 (by omega)
  have hnn := Blv hb (Av9 o) hnum.2.1.1 hnum.2.1.2 m1 (by omega) d2
  rw [Blc o ho, Aa]
  simp only
  rw [if_neg (by decide), hd.Bbx, Aa]
  simp only
  rw [if_neg (by simp [Al, Ci, Ac]; omega), Vb, Ab4, Cl hlt2, Aa, Fy (by omega) (by omega), Aa, Aa, Akj, Aa]
  simp only
  rw [hm, d1, Aa]
  simp only
  rw [Bmm o ho, Aa] at hT
  simp only at hT
  rw [Fy (by omega) (by omega), Aa, Ld, Aa] at hT
  simp only at hT
  rw [hd.Btz, Aa, Cl hlt2, Aa, Aa, hm] at hT
  rw [d2, Aa] at hT
  simp only at hT
  rw [Rz, Ac5] at hT
  rw [Acz, Vu]
  by_cases he : e ≠ 0
  ·rw [if_pos (by rw [Al]; simpa using he)] at hT ⊢
   rw [Aa] at hT
   simp only at hT
   rw [if_pos (by rw [Al]; simpa using he)] at hT
   rw [Aq, Aa]
   simp only
   rw [Bhw]
   exact ⟨_, rfl, (rp4 hT).trans (by rw [Bcq hnn]; rfl)⟩
  ·have he0 : e = 0 := by simpa using he
   obtain ⟨k1, k2, k3⟩ := d3 he0
   have hbl := Ams w xs
   rw [if_neg (by rw [Al, he0]; simp)] at hT ⊢
   rw [Bkg hb k2 k1, Aa, Aa] at hT
   simp only at hT
   rw [if_neg (by decide), Eu (by simp; omega), Aa, List.nil_append, Eu (by omega), Aa, Aa, Jf (by omega) (by omega), Aa] at hT
   rw [Bg5 hb k2 k1, Aa]
   simp only
   rw [if_neg (by decide), Eu (by omega), Aa, Jf (by omega) (by omega), Aa, Bhw]
   exact ⟨_, rfl, rp4 hT⟩
end Go.Pl
set_option linter.unusedVariables false
set_option linter.unusedSimpArgs false
namespace Go.Pl
open Go Go.Lv
theorem Bdp (a : LI) (b : Int) (ha : a.length ≤ 100) : ∀ (j i q : Nat), i + j = a.length → j < q → ∃ r, Bf a b q (i : Int) = some r ∧ Nc r 0 = (a.drop i).any fun y => b == y
 | 0, i, q + 1, hi, _ => by
  refine ⟨-1, ?_, ?_⟩
  ·rw [Bf, Cw, if_neg (by rw [Af, Ac]; simp; omega)]; rfl
  ·rw [show i = a.length by omega, List.drop_length]; rfl
 | j + 1, i, q + 1, hi, hq => by
  have hlt : i < a.length := by omega
  obtain ⟨r, h1, h2⟩ := Bdp a b ha j (i + 1) q (by omega) (by omega)
  rw [Bf, Cw, if_pos (by rw [Af, Ac]; simp; omega), Cl hlt, Aa, drop_cons hlt, List.any_cons]
  by_cases h : b = a[i]
  ·rw [if_pos (by rw [Az]; simpa using h)]
   refine ⟨_, rfl, ?_⟩
   rw [Ci, decide_eq_true (by omega), h]; simp
  ·rw [if_neg (by rw [Az]; simpa using h), Ag (by omega) (by omega)]
   refine ⟨r, h1, ?_⟩
   rw [h2, beq_eq_false_iff_ne.2 h, Bool.false_or]
theorem Bm8 (v : Int) : ∃ B : Bool, Oc v = some B ∧ Mw v = some B := by
 obtain ⟨r, h1, h2⟩ := Bdp [4, 12, 16, 22, 24, 26, 38] v (by decide) 7 0 Ay rfl (by have := As; omega)
 refine ⟨_, ?_, rfl⟩
 rw [Oc, Fu, Gy, Ft, Fw]
 have h1' : Bf [4, 12, 16, 22, 24, 26, 38] v Ay 0 = some r := h1
 rw [h1', Aa, Aa, h2]
 simp only [List.drop_zero, List.any_cons, List.any_nil, Bool.or_false, Az, Bool.or_assoc]
theorem Arf (B : Bool) : Bc B = some (if B = true then 0 else 8) := by
 rw [Bc, Ajd]; cases B <;> rfl
theorem Brd (a b : LB) (f g h k m : Int) (n : LI) (o : Int) (p : LB) (u : Bool) (v : Int) (hb : b.length ≤ 1000000) (hn : n.length ≤ 1000000) (hp : p.length ≤ 1000000) :
  Aco a b f g h k m n o p u v = some (a, b, f, g, h, k, m, n, o, p, u, v) := by
 rw [Aco, Wt, Eu (by simp; omega), Aa, Aa, Wt, Eu (by simp; omega), Aa, Aa, Iv, Eu (by simp; omega), Aa, Aa]
 rfl
theorem Bms (o p : LB) (f c w r n : Int) (g : LI) (a : Int) (x : LB) (u : Bool) (v : Int) (hp : p.length ≤ 100000) (hg : g.length ≤ 100000) (hx : x.length ≤ 100000) :
  ∃ E, Aeu o p f c w r n g a x u v = some E ∧ Rh o p f c w r n g a x u v = some E := by
 rw [Aeu, Xr, Rh]
 by_cases ho : 64 < o.length
 ·rw [if_pos (by rw [Ap, Ac]; simp; omega), if_pos (by rw [Ap, Ac]; simp; omega)]
  exact ⟨8, rfl, rfl⟩
 have hO : ¬ (Cu (Ac o) 64 = true) := by rw [Ap, Ac]; simp; omega
 rw [if_neg hO, if_neg hO]
 by_cases hw : (geq v 0 && !u) = true
 ·rw [if_pos hw, if_pos hw, Brd o p f c w r n g a x u v (by omega) (by omega) (by omega), Aa]
  simp only
  rcases Bhn o p f c w r n g a x u v with ⟨e1, e2⟩ | ⟨e1, e2, hd⟩
  ·rw [e1, e2, Aa, Aa, if_neg (by decide), if_pos (by decide), Arf]
   exact ⟨8, rfl, rfl⟩
  ·rw [e1, e2, Aa, if_pos rfl]
   have key : ∃ B : Bool, Bhc o p f c w r n g a x u v = Bc B ∧ Bo o p f c w r n g a x u v = some B := by
    cases hd with
    | new e1 e2 e3 e4 e5 e6 e7 e8 => subst e1; exact Bkb o p c w r n g a x u v hp
    | head F C W R N h hpw e6 e7 e8 => subst e6; exact Br7 h o p (by omega) hp a x u v
    | tab F C W R N A h hpw ht hl ea hA => subst ea; exact Bl9 h o p (by omega) hp g ht hl A hA x hx u v
   obtain ⟨B, k1, k2⟩ := key
   rw [k2, Aa]
   refine ⟨if B = true then 0 else 8, k1.trans (Arf B), ?_⟩
   cases B <;> rfl
 ·rw [if_neg hw, if_neg hw]
  by_cases hl : (geq (Ac p) 0 && geq (Ac g) 0) = true
  ·rw [if_pos hl, if_pos hl]
   generalize (geq f 0 && (geq c 0 && (geq w 0 && (geq r 0 && (geq n 0 && true))))) = z
   by_cases hz : ((z && geq a 0) && gle (Ac x) 12000) = true
   ·rw [if_pos hz]
    simp only [Bool.and_eq_true, Xx, Ac, decide_eq_true_eq] at hz
    obtain ⟨⟨z1, z2⟩, z3⟩ := hz
    have hN : ¬ ((!(z && geq a 0) || Cu (Ac x) 12000) = true) := by rw [z1, z2, Ap, Ac]; simp; omega
    rw [if_neg hN]
    by_cases hv : v = 0
    ·have v1 : geq v 0 = true := by rw [Az]; simpa using hv
     have v2 : ¬ (Bm v 0 = true) := by rw [Al]; simpa using hv
     rw [if_pos v1, if_neg v2, Arf]
     exact ⟨0, rfl, rfl⟩
    ·have v1 : ¬ (geq v 0 = true) := by rw [Az]; simpa using hv
     have v2 : Bm v 0 = true := by rw [Al]; simpa using hv
     rw [if_neg v1, if_pos v2]
     obtain ⟨B, k1, k2⟩ := Bm8 v
     rw [k1, k2, Aa, Aa, Arf, Arf]
     cases u
     ·refine ⟨if B = true then 0 else 8, by simp, ?_⟩
      cases B <;> rfl
     ·exact ⟨8, rfl, rfl⟩
   ·rw [if_neg hz, if_pos, Arf]
    ·exact ⟨8, rfl, rfl⟩
    ·simp only [Bool.and_eq_true, Xx, Ac, decide_eq_true_eq] at hz
     simp only [Bool.or_eq_true, Bool.not_eq_true', Ap, Ac, decide_eq_true_eq]
     by_cases hz2 : (z && geq a 0) = true
     ·rw [Bool.and_eq_true] at hz2
      exact .inr (by have hq : ¬ ((x.length : Int) ≤ 12000) := fun h => hz ⟨hz2, h⟩; omega)
     ·exact .inl (by simpa using hz2)
  ·rw [if_neg hl, if_neg hl, if_neg (by simp), if_pos (by simp), Arf]
   exact ⟨8, rfl, rfl⟩
end Go.Pl
set_option linter.unusedVariables false
set_option linter.unusedSimpArgs false
namespace Go.Pl
open Go Go.Lv
theorem Ba3 (a b : Nat) (h : a * b ≤ 9223372036854775807) : Bb (a : Int) (b : Int) = ((a * b : Nat) : Int) := by
 rw [Gt (by rw [← Int.natCast_mul]; omega) (by rw [← Int.natCast_mul]; omega), ← Int.natCast_mul]
theorem Azw (a b : Nat) (h : a + b ≤ 9223372036854775807) : Ae (a : Int) (b : Int) = ((a + b : Nat) : Int) := by
 rw [Ag (by omega) (by omega), ← Int.natCast_add]
theorem Bq4 {bits : Int} (h : ¬ Ce bits) : Ez bits = some 0 := by
 have h8 : ¬ bits = 8 := fun e => h (.inl e)
 have h16 : ¬ bits = 16 := fun e => h (.inr (.inl e))
 have h24 : ¬ bits = 24 := fun e => h (.inr (.inr e))
 rw [Ez, if_neg (by rw [Az]; simpa using h8), if_neg (by rw [Az]; simpa using h16), if_neg (by rw [Az]; simpa using h24)]
instance decBits (bits : Int) : Decidable (Ce bits) := by unfold Ce; infer_instance
def shS (c w : Int) : Bool := decide ((1 ≤ c ∧ c ≤ 6) ∧ Ce w)
theorem Bud (c w : Int) : On c w = some (if shS c w = true then 0 else 2) := by
 rw [On]
 by_cases hw : Ce w
 ·rw [Bhq hw, Aa]
  simp only
  by_cases hc : 1 ≤ c ∧ c ≤ 6
  ·rw [if_neg (by simp [Al, Af, Ap]; omega), shS, decide_eq_true ⟨hc, hw⟩, if_pos rfl]
  ·rw [if_pos (by simp [Al, Af, Ap]; omega), shS, decide_eq_false (fun h => hc h.1), if_neg (by decide)]
 ·rw [Bns hw, Aa]
  simp only
  rw [if_pos (by simp [Al]), shS, decide_eq_false (fun h => hw h.2), if_neg (by decide)]
theorem Btn (c w : Int) : Gc c w = some (if shS c w = true then 0 else 2) := by
 rw [Gc]
 by_cases hc : 1 ≤ c ∧ c ≤ 6
 ·rw [if_neg (by simp [Af, Ap]; omega)]
  by_cases hw : Ce w
  ·have := (Aq2 w).1
   rw [Aum hw, Aa, if_neg (by rw [Az]; simp; omega), shS, decide_eq_true ⟨hc, hw⟩, if_pos rfl]
  ·rw [Bq4 hw, Aa, if_pos (by decide), shS, decide_eq_false (fun h => hw h.2), if_neg (by decide)]
 ·rw [if_pos (by simp [Af, Ap]; omega), shS, decide_eq_false (fun h => hc h.1), if_neg (by decide)]
def Ani (r : Int) : Bool := decide (1 ≤ r ∧ r ≤ 1048576)
def Asw (r : Int) : Int := if Ani r = true then (longN r.toNat : Int) else 0
theorem Bsn (r : Int) : Nf r = some (Asw r, if Ani r = true then 0 else 2) := by
 by_cases h : 1 ≤ r ∧ r ≤ 1048576
 ·obtain ⟨R, rfl⟩ := Int.eq_ofNat_of_zero_le (show 0 ≤ r by omega)
  rw [Atn (by omega) (by omega), Asw, Ani, decide_eq_true h]; rfl
 ·rw [Nf, if_pos (by simp [Af, Ap]; omega), Asw, Ani, decide_eq_false h]; rfl
theorem Bh9 (r : Int) : Ja r = some (Asw r, if Ani r = true then 0 else 2) := by
 by_cases h : 1 ≤ r ∧ r ≤ 1048576
 ·obtain ⟨R, rfl⟩ := Int.eq_ofNat_of_zero_le (show 0 ≤ r by omega)
  have e : Bq (Bb (R : Int) 256) 245 = ((R * 256 / 245 : Nat) : Int) := by
   rw [Gt (by omega) (by omega), show (R : Int) * 256 = ((R * 256 : Nat) : Int) by omega]
   exact At6 (by omega)
  rw [Ja, if_neg (by simp [Af, Ap]; omega), e, Asw, Ani, decide_eq_true h, if_pos rfl, if_pos rfl, longN, show (R : Int).toNat = R from rfl, Nat.mul_comm 256 R]
  by_cases h0 : R * 256 / 245 = 0
  ·rw [if_pos (by rw [Az]; simp; omega)]
   congr 2
   omega
  ·rw [if_neg (by rw [Az]; simp; omega)]
   congr 2
   omega
 ·rw [Ja, if_pos (by simp [Af, Ap]; omega), Asw, Ani, decide_eq_false h]; rfl
def fdB (C w : Int) (c L : Nat) (rest : LB) (l : LX) (fr : List LB) (out : LB) : Bool :=
 decide (out = [] ∧ rest.length < c * wB w ∧ l.length % c = 0 ∧ l.length / c < L ∧ fr.length ≤ 1000 ∧ Au w l = some 0 ∧ fr.length + (if l = [] then 0 else 1) ≤ 1000 ∧ (fr.length * L + l.length / c) * c ≤ 4000 ∧
  ∀ x ∈ fr, 5 ≤ x.length ∧ x.length ≤ (81 * L * c + 7) / 8 + 4)
section
variable {w : Int} {c L : Nat} (hw : Ce w) (hc : 1 ≤ c ∧ c ≤ 6) (hL : 1 ≤ L ∧ L ≤ 1100000)
include hw hc hL
omit hw in
theorem Bjc : Ae (Bq (Ae (Bb (Bb 81 (L : Int)) (c : Int)) 7) 8) 4 = (((81 * L * c + 7) / 8 + 4 : Nat) : Int) := by
 have h1 : 81 * L * c ≤ 81 * 1100000 * 6 := Nat.mul_le_mul (by omega) hc.2
 rw [show (81 : Int) = ((81 : Nat) : Int) from rfl, Ba3 81 L (by omega), Ba3 (81 * L) c (by omega), show (7 : Int) = ((7 : Nat) : Int) from rfl, Azw (81 * L * c) 7 (by omega), show (8 : Int) = ((8 : Nat) : Int) from rfl, At6 (by omega), show (4 : Int) = ((4 : Nat) : Int) from rfl, Azw _ 4 (by omega)]
omit hw in
theorem Bim (fr : List LB) (hf : fr.length ≤ 2000) : ∀ (j i q : Nat), i + j = fr.length → j < q → Hn fr (L : Int) (c : Int) q (i : Int) = some (decide (∀ x ∈ fr.drop i, 5 ≤ x.length ∧ x.length ≤ (81 * L * c + 7) / 8 + 4))
 | 0, i, q + 1, hi, _ => by
  rw [Hn, Pf, if_neg (by rw [Af, Ac]; simp; omega), show i = fr.length by omega, List.drop_length]; rfl
 | j + 1, i, q + 1, hi, hq => by
  have hlt : i < fr.length := by omega
  have ih := Bim fr hf j (i + 1) q (by omega) (by omega)
  rw [Hn, Pf, if_pos (by rw [Af, Ac]; simp; omega), Cl hlt, Aa, Yj, Yc, Bjc hc hL, drop_cons hlt]
  generalize (81 * L * c + 7) / 8 + 4 = K at *
  by_cases h : 5 ≤ fr[i].length ∧ fr[i].length ≤ K
  ·rw [if_neg (by simp [Af, Ap, Ac]; omega), Ya, Agn, Ag (by omega) (by omega)]
   refine ih.trans ?_
   congr 1
   rw [Bool.eq_iff_iff, decide_eq_true_eq, decide_eq_true_eq, List.forall_mem_cons]
   exact ⟨fun hh => ⟨h, hh⟩, fun hh => hh.2⟩
  ·rw [if_pos (by simp [Af, Ap, Ac]; omega), Pc, Yb, Ym, Ago]
   have e : Nc (i : Int) 0 = true := by rw [Ci]; simp
   rw [e, decide_eq_false (fun hh => h (hh _ List.mem_cons_self))]; rfl
omit hw in
theorem Bnr (C : Int) (fr : List LB) (hf : fr.length ≤ 2000) (f2 : Int) (o k : LB) (b : LX) (m : LB) (p : Bool) (u : Int) : ∀ (j i q : Nat), i + j = fr.length → j < q → Df (L : Int) (c : Int) C f2 o k b fr m p u q (i : Int) = some (decide (∀ x ∈ fr.drop i, 5 ≤ x.length ∧ x.length ≤ (81 * L * c + 7) / 8 + 4))
 | 0, i, q + 1, hi, _ => by
  rw [Df, Iq, if_neg (by rw [Af, Ac]; simp; omega), show i = fr.length by omega, List.drop_length]; rfl
 | j + 1, i, q + 1, hi, hq => by
  have hlt : i < fr.length := by omega
  have ih := Bnr C fr hf f2 o k b m p u j (i + 1) q (by omega) (by omega)
  rw [Df, Iq, if_pos (by rw [Af, Ac]; simp; omega), Cl hlt, Aa, Aa, Bjc hc hL, drop_cons hlt]
  generalize (81 * L * c + 7) / 8 + 4 = K at *
  by_cases h5 : 5 ≤ fr[i].length
  ·rw [if_neg (by simp [Af, Ac]; omega)]
   by_cases h : fr[i].length ≤ K
   ·rw [if_neg (by simp [Ap, Ac]; omega), Ag (by omega) (by omega)]
    refine ih.trans ?_
    congr 1
    rw [Bool.eq_iff_iff, decide_eq_true_eq, decide_eq_true_eq, List.forall_mem_cons]
    exact ⟨fun hh => ⟨⟨h5, h⟩, hh⟩, fun hh => hh.2⟩
   ·rw [if_pos (by simp [Ap, Ac]; omega), decide_eq_false (fun hh => h (hh _ List.mem_cons_self).2)]
  ·rw [if_pos (by simp [Af, Ac]; omega), decide_eq_false (fun hh => h5 (hh _ List.mem_cons_self).1)]
theorem Bly (R : Int) (p rest : LB) (l : LX) (fr : List LB) (out : LB) (u : Bool) (v : Int) (h1 : l.length ≤ 4000) (h2 : fr.length ≤ 2000) :
  Zr (c : Int) w R p rest l fr out u v (L : Int) = some (fdB w w c L rest l fr out) := by
 have hok : Oz (Bm (c : Int) 0) = some () := Ca (by rw [Al]; simp; omega)
 have hgs : Bq (Ac l) (c : Int) = ((l.length / c : Nat) : Int) := by rw [Ac]; exact At6 (by omega)
 have him : Il (Ac l) (c : Int) = ((l.length % c : Nat) : Int) := by rw [Ac]; exact Ar2 _ _
 have hmo : Aby (c : Int) w = some ((c * wB w : Nat) : Int) := by
  rw [Aby]
  obtain ⟨W, rfl⟩ : ∃ W : Nat, w = W := by
   rcases hw with h | h | h <;> exact ⟨_, h⟩
  rw [Bhk hc.2 hw]
 rw [Zr, Aal]
 simp only [hok, hgs, him, hmo, Aa]
 by_cases c1 : out = []
 ·rw [if_neg (by subst c1; decide)]
  by_cases c2 : rest.length < c * wB w
  ·rw [if_neg (by rw [Ci, Ac]; simp; omega)]
   by_cases c3 : l.length % c = 0
   ·rw [if_neg (by rw [Al, c3]; decide)]
    by_cases c4 : l.length / c < L ∧ fr.length ≤ 1000
    ·rw [if_neg (by simp [Ci, Ap, Ac]; omega), Yr, Yt, Arw hw l h1]
     obtain ⟨e, he⟩ := Aq4 hw l h1
     rw [he, Aa]
     by_cases c5 : e = 0
     ·subst c5
      rw [if_neg (by decide)]
      have hlc : l.length / c ≤ 4000 := Nat.le_trans (Nat.div_le_self _ _) h1
      have hGL : fr.length * L ≤ 2000 * 1100000 := Nat.mul_le_mul h2 hL.2
      have hGLc : (fr.length * L + l.length / c) * c ≤ (2000 * 1100000 + 4000) * 6 := Nat.mul_le_mul (by omega) hc.2
      have key : ∀ M : Nat, M ≤ 3000 → Pr (L : Int) (c : Int) w R p rest l fr out u v (M : Int) = some (decide (M ≤ 1000 ∧ (fr.length * L + l.length / c) * c ≤ 4000 ∧ ∀ x ∈ fr, 5 ≤ x.length ∧ x.length ≤ (81 * L * c + 7) / 8 + 4)) := by
       intro M hM
       rw [Pr, Yd, Akr, hok, Aa, Aa, Al0, Aa, hgs, Ac, Ba3 fr.length L (by omega), Azw _ _ (by omega), Ba3 _ c (by omega)]
       by_cases c6 : M ≤ 1000 ∧ (fr.length * L + l.length / c) * c ≤ 4000
       ·rw [if_neg (by simp only [Xx, Bool.not_eq_true', Bool.and_eq_false_iff, decide_eq_false_iff_not]; omega), Yq, Yo, Yx]
        refine (Bim hc hL fr h2 fr.length 0 Ay (by omega) (by have := As; omega)).trans ?_
        rw [List.drop_zero]
        congr 1
        rw [Bool.eq_iff_iff, decide_eq_true_eq, decide_eq_true_eq]
        exact ⟨fun h => ⟨c6.1, c6.2, h⟩, fun h => h.2.2⟩
       ·rw [if_pos (by simp only [Xx, Bool.not_eq_true', Bool.and_eq_false_iff, decide_eq_false_iff_not]; omega), decide_eq_false (fun h => c6 ⟨h.1, h.2.1⟩)]
      have fin : ∀ M : Nat, M = fr.length + (if l = [] then 0 else 1) → some (decide (M ≤ 1000 ∧ (fr.length * L + l.length / c) * c ≤ 4000 ∧ ∀ x ∈ fr, 5 ≤ x.length ∧ x.length ≤ (81 * L * c + 7) / 8 + 4)) = some (fdB w w c L rest l fr out) := by
       intro M hM
       congr 1
       rw [fdB, Bool.eq_iff_iff, decide_eq_true_eq, decide_eq_true_eq, hM]
       exact ⟨fun h => ⟨c1, c2, c3, c4.1, c4.2, he, h⟩, fun h => h.2.2.2.2.2.2⟩
      by_cases c0 : l = []
      ·rw [if_neg (by subst c0; decide), Ac, key fr.length (by omega)]
       exact fin _ (by rw [if_pos c0]; rfl)
      ·rw [if_pos (by rw [Ajv]; simpa using c0), Ac, Ag (by omega) (by omega), show ((fr.length : Int) + 1) = ((fr.length + 1 : Nat) : Int) by omega, key (fr.length + 1) (by omega)]
       exact fin _ (by rw [if_neg c0])
     ·rw [if_pos (by rw [Al]; simpa using c5), fdB, decide_eq_false (fun h => c5 (by have := h.2.2.2.2.2.1; rw [he] at this; exact Option.some.inj this))]
    ·rw [if_pos (by simp [Ci, Ap, Ac]; omega), fdB, decide_eq_false (fun h => c4 ⟨h.2.2.2.1, h.2.2.2.2.1⟩)]
   ·rw [if_pos (by rw [Al]; simp; omega), if_pos (by simp), fdB, decide_eq_false (fun h => c3 h.2.2.1)]
  ·rw [if_pos (by rw [Ci, Ac]; simp; omega), if_pos trivial, if_pos (by simp), fdB, decide_eq_false (fun h => c2 h.2.1)]
 ·rw [if_pos (by rw [Ajv]; simpa using c1), if_pos trivial, if_pos trivial, if_pos (by simp), fdB, decide_eq_false (fun h => c1 h.1)]
theorem Bn6 (R : Int) (hR : Asw R = L) (p rest : LB) (l : LX) (fr : List LB) (out : LB) (u : Bool) (v : Int) (h1 : l.length ≤ 4000) (h2 : fr.length ≤ 2000) :
  Np (c : Int) w R p rest l fr out u v = some (fdB w w c L rest l fr out) := by
 have hok : Oz (Bm (c : Int) 0) = some () := Ca (by rw [Al]; simp; omega)
 have hgs : Bq (Ac l) (c : Int) = ((l.length / c : Nat) : Int) := by rw [Ac]; exact At6 (by omega)
 have him : Il (Ac l) (c : Int) = ((l.length % c : Nat) : Int) := by rw [Ac]; exact Ar2 _ _
 have hmo : Hk (c : Int) w = some ((c * wB w : Nat) : Int) := by
  rw [Hk]
  obtain ⟨W, rfl⟩ : ∃ W : Nat, w = W := by
   rcases hw with h | h | h <;> exact ⟨_, h⟩
  rw [Bhk hc.2 hw]
 have hlg : Nq (c : Int) w R p rest l fr out u v = some (L : Int) := by rw [Nq, Bh9, Aa, hR]
 have hLc : L * c ≤ 1100000 * 6 := Nat.mul_le_mul hL.2 hc.2
 have hlm : Bb (L : Int) (c : Int) = ((L * c : Nat) : Int) := Ba3 L c (by omega)
 obtain ⟨e, he⟩ := Aq4 hw l h1
 rw [Np, Qd]
 simp only [hlg, hok, him, hmo, hlm, he, Aa]
 by_cases c1 : out = []
 ·rw [if_neg (by subst c1; decide)]
  by_cases c2 : rest.length < c * wB w
  ·rw [if_neg (by rw [Ci, Ac]; simp; omega)]
   by_cases c3 : l.length % c = 0 ∧ l.length / c < L
   ·have c34 : l.length < L * c := (Nat.div_lt_iff_lt_mul (by omega)).1 c3.2
    rw [if_neg (by simp only [Al, Ci, Ac, Bool.or_eq_true, bne_iff_ne, decide_eq_true_eq]; omega)]
    by_cases c5 : e = 0 ∧ fr.length ≤ 1000
    ·obtain ⟨c5, c4⟩ := c5
     subst c5
     rw [if_neg (by simp [Al, Ap, Ac]; omega), Qf, Qz]
     have hlc : l.length / c ≤ 4000 := Nat.le_trans (Nat.div_le_self _ _) h1
     have hGL : fr.length * L ≤ 2000 * 1100000 := Nat.mul_le_mul h2 hL.2
     have key : ∀ M : Nat, M ≤ 3000 → Jn (L : Int) (c : Int) w R p rest l fr out u v (M : Int) = some (decide (M ≤ 1000 ∧ (fr.length * L + l.length / c) * c ≤ 4000 ∧ ∀ x ∈ fr, 5 ≤ x.length ∧ x.length ≤ (81 * L * c + 7) / 8 + 4)) := by
      intro M hM
      have e4 : Bq 4000 (c : Int) = ((4000 / c : Nat) : Int) := At6 (a := 4000) (by decide)
      rw [Jn, Qj, Aaq, hok, Aa, hlg, Aa, Aa, hgs, Ac, Ba3 fr.length L (by omega), Azw _ _ (by omega), Acg, hok, Aa, e4]
      have hdiv : (fr.length * L + l.length / c ≤ 4000 / c) ↔ (fr.length * L + l.length / c) * c ≤ 4000 := Nat.le_div_iff_mul_le (by omega)
      by_cases c6 : M ≤ 1000
      ·rw [if_pos (by rw [Xx]; simp; omega), Aa]
       by_cases c7 : (fr.length * L + l.length / c) * c ≤ 4000
       ·have c8 := hdiv.2 c7
        rw [if_neg (by simp only [Xx, Bool.not_eq_true', decide_eq_false_iff_not]; omega), Qe, Qn, Oj]
        refine (Bnr hc hL w fr h2 R p rest l out u v fr.length 0 Ay (by omega) (by have := As; omega)).trans ?_
        rw [List.drop_zero]
        congr 1
        rw [Bool.eq_iff_iff, decide_eq_true_eq, decide_eq_true_eq]
        exact ⟨fun h => ⟨c6, c7, h⟩, fun h => h.2.2⟩
       ·have c8 : ¬ (fr.length * L + l.length / c ≤ 4000 / c) := fun h => c7 (hdiv.1 h)
        rw [if_pos (by simp only [Xx, Bool.not_eq_true', decide_eq_false_iff_not]; omega), decide_eq_false (fun h => c7 h.2.1)]
      ·rw [if_neg (by rw [Xx]; simp; omega), Aa, if_pos (by decide), decide_eq_false (fun h => c6 h.1)]
     have fin : ∀ M : Nat, M = fr.length + (if l = [] then 0 else 1) → some (decide (M ≤ 1000 ∧ (fr.length * L + l.length / c) * c ≤ 4000 ∧ ∀ x ∈ fr, 5 ≤ x.length ∧ x.length ≤ (81 * L * c + 7) / 8 + 4)) = some (fdB w w c L rest l fr out) := by
      intro M hM
      congr 1
      rw [fdB, Bool.eq_iff_iff, decide_eq_true_eq, decide_eq_true_eq, hM]
      exact ⟨fun h => ⟨c1, c2, c3.1, c3.2, c4, he, h⟩, fun h => h.2.2.2.2.2.2⟩
     by_cases c0 : l = []
     ·rw [if_neg (by subst c0; decide), Ac, key fr.length (by omega)]
      exact fin _ (by rw [if_pos c0]; rfl)
     ·rw [if_pos (by rw [Ajv]; simpa using c0), Ac, Ag (by omega) (by omega), show ((fr.length : Int) + 1) = ((fr.length + 1 : Nat) : Int) by omega, key (fr.length + 1) (by omega)]
      exact fin _ (by rw [if_neg c0])
    ·rw [if_pos (by simp [Al, Ap, Ac]; omega), fdB, decide_eq_false (fun h => c5 ⟨by have := h.2.2.2.2.2.1; rw [he] at this; exact Option.some.inj this, h.2.2.2.2.1⟩)]
   ·have c34 : l.length % c ≠ 0 ∨ L * c ≤ l.length := by
     by_cases h0 : l.length % c = 0
     ·exact .inr (by have := mt (Nat.div_lt_iff_lt_mul (show 0 < c by omega) (x := l.length) (y := L)).2 (fun h => c3 ⟨h0, h⟩); omega)
     ·exact .inl h0
    rw [if_pos (by simp only [Al, Ci, Ac, Bool.or_eq_true, bne_iff_ne, decide_eq_true_eq]; omega), if_pos (by simp), fdB, decide_eq_false (fun h => c3 ⟨h.2.2.1, h.2.2.2.1⟩)]
  ·rw [if_pos (by rw [Ci, Ac]; simp; omega), if_pos (by simp), if_pos (by simp), fdB, decide_eq_false (fun h => c2 h.2.1)]
 ·rw [if_pos (by rw [Ajv]; simpa using c1), if_pos trivial, if_pos (by simp), if_pos (by simp), fdB, decide_eq_false (fun h => c1 h.1)]
end
theorem empty_eq (b : LB) (f : LX) (g : List LB) (hb : b.length ≤ 100000) (hf : f.length ≤ 100000) (hg : g.length ≤ 100000) : geq (Ae (Ae (Ac b) (Ac f)) (Ac g)) 0 = ((geq (Ac b) 0 && geq (Ac f) 0) && geq (Ac g) 0) := by
 rw [Ac, Ac, Ac, Azw _ _ (by omega), Azw _ _ (by omega)]
 simp only [Az]
 rw [Bool.eq_iff_iff]
 simp only [Bool.and_eq_true, beq_iff_eq]
 omega
theorem Blp (m n o : Int) (p b : LB) (f : LX) (g : List LB) (h : LB) (k : Bool) (a : Int) (hb : b.length ≤ 100000) (hf : f.length ≤ 4000) (hg : g.length ≤ 2000) (hh : h.length ≤ 1000000) :
  ∃ E, Aer m n o p b f g h k a = some E ∧ Rw m n o p b f g h k a = some E := by
 rw [Aer, Ake, Bsn, Aa, Rw, Aan, Bh9, Aa]
 simp only
 rw [Bud, Btn, Aa, Aa, Aa]
 simp only
 by_cases hR : shS m n = true ∧ Ani o = true ∧ p.length ≤ 64
 ·obtain ⟨h1, h2, h3⟩ := hR
  have hp1 : gle (Ac p) 64 = true := by rw [Xx, Ac]; simp; omega
  have hp2 : Cu (Ac p) 64 = false := by rw [Ap, Ac]; simp; omega
  have hx : (if ((Bm (0 : Int) 0 || Bm (0 : Int) 0) || false) = true then some (2 : Int) else some 0) = some 0 := rfl
  have hy : ¬ (Bm (0 : Int) 0 = true) := by decide
  rw [if_pos h1, if_pos h2, hp1, hp2, if_neg (by decide), hx, Aa, if_neg hy]
  by_cases ha : Bm a 0 = true
  ·rw [if_pos ha, if_pos ha, empty_eq b f g (by omega) (by omega) (by omega)]
   generalize ((geq (Ac b) 0 && geq (Ac f) 0) && geq (Ac g) 0) = z
   have e1 : geq (Ac h) 0 = decide (h = []) := Asv h
   have e2 : Cu (Ac h) 0 = decide (h ≠ []) := Ajv h
   rw [e1, e2]
   by_cases hq : (((((geq a 18) || (geq a 24)) && (!k)) && z) && decide (h = [])) = true
   ·rw [if_neg (by rw [hq]; decide), if_neg]
    ·exact ⟨0, rfl, rfl⟩
    ·simp only [Bool.and_eq_true, Bool.or_eq_true, Bool.not_eq_true', decide_eq_true_eq, Az, Al, bne_iff_ne, beq_iff_eq] at hq ⊢
     simp [hq]
     omega
   ·rw [if_pos (by rw [Bool.eq_false_iff.2 hq]; rfl), if_pos]
    ·exact ⟨8, rfl, rfl⟩
    ·simp only [Bool.and_eq_true, Bool.or_eq_true, Bool.not_eq_true', decide_eq_true_eq, Az, Al, bne_iff_ne, beq_iff_eq] at hq ⊢
     by_cases e3 : h = []
     ·by_cases e4 : z = true
      ·by_cases e5 : k = true
       ·exact .inl (.inl (.inr e5))
       ·exact .inl (.inl (.inl (by
         simp only [Bool.not_eq_true] at e5
         simp [e3, e4, e5] at hq
         omega)))
      ·exact .inl (.inr (by simpa using e4))
     ·exact .inr e3
  ·rw [if_neg ha, if_neg ha]
   cases k with
   | true =>
    rw [if_pos rfl, if_pos rfl, empty_eq b f g (by omega) (by omega) (by omega)]
    generalize ((geq (Ac b) 0 && geq (Ac f) 0) && geq (Ac g) 0) = z
    by_cases hq : (z && gle (Ac h) 100000) = true
    ·rw [if_neg (by rw [hq]; decide), if_neg]
     ·exact ⟨0, rfl, rfl⟩
     ·simp only [Bool.and_eq_true, Xx, decide_eq_true_eq, Ac] at hq
      simp [hq.1, Ap, Ac]; omega
    ·rw [if_pos (by rw [Bool.eq_false_iff.2 hq]; rfl), if_pos]
     ·exact ⟨8, rfl, rfl⟩
     ·cases z with
      | false => rfl
      | true =>
       simp [Xx, Ac] at hq
       simp [Ap, Ac]; omega
   | false =>
    rw [if_neg (by decide), if_neg (by decide)]
    have hs1 := h1
    have hs2 := h2
    rw [shS, decide_eq_true_eq] at hs1
    rw [Ani, decide_eq_true_eq] at hs2
    obtain ⟨C, rfl⟩ := Int.eq_ofNat_of_zero_le (show 0 ≤ m by omega)
    have hLo : Asw o = ((longN o.toNat : Nat) : Int) := by rw [Asw, if_pos h2]
    have hL : 1 ≤ longN o.toNat ∧ longN o.toNat ≤ 1100000 := ⟨Ahl _, Atk (by omega)⟩
    rw [hLo, Bly hs1.2 (by omega) hL o p b f g h false a hf hg, Bn6 hs1.2 (by omega) hL o hLo p b f g h false a hf hg, Aa]
    generalize fdB n n C (longN o.toNat) b f g h = B
    cases B
    ·exact ⟨8, rfl, rfl⟩
    ·exact ⟨0, rfl, rfl⟩
 ·have h8 : (((geq (if shS m n = true then (0 : Int) else 2) 0 && geq (if Ani o = true then (0 : Int) else 2) 0) && gle (Ac p) 64)) = false := by
   rw [Bool.eq_false_iff]
   intro e
   simp only [Bool.and_eq_true, Xx, decide_eq_true_eq, Ac] at e
   refine hR ⟨?_, ?_, by omega⟩
   ·cases hq : shS m n with
    | true => rfl
    | false => rw [hq] at e; exact absurd e.1.1 (by decide)
   ·cases hq : Ani o with
    | true => rfl
    | false => rw [hq] at e; exact absurd e.1.2 (by decide)
  rw [h8]
  refine ⟨8, rfl, ?_⟩
  rw [if_pos, Aa, if_pos (by decide)]
  ·simp only [Bool.or_eq_true, Ap, decide_eq_true_eq, Ac]
   cases hq : shS m n with
   | false => exact .inl (.inl (by decide))
   | true =>
    cases hq2 : Ani o with
    | false => exact .inl (.inr (by decide))
    | true => exact .inr (by have : ¬ p.length ≤ 64 := fun h => hR ⟨hq, hq2, h⟩; omega)
end Go.Pl
set_option linter.unusedVariables false
set_option linter.unusedSimpArgs false
namespace Go.Pl
open Go Go.Lv
theorem Bnf (a b : LB) (f g h k m : Int) (n : LI) (o : Int) (p : LB) (u : Bool) (v : Int) : ∃ B : Bool, Tg a b f g h k m n o p u v = some B ∧ (B = false → b.length ≤ 5000 ∧ n.length ≤ 1010 ∧ p.length ≤ 12100) := by
 rw [Tg]
 split
 ·exact ⟨_, rfl, fun e => by simp at e⟩
 ·rename_i hc
  refine ⟨_, rfl, fun e => ?_⟩
  simp only [Bool.or_eq_true, Ap, Ac, decide_eq_true_eq, not_or] at hc
  simp only [Bool.or_eq_false_iff, Ap, Ac, decide_eq_false_iff_not] at e
  omega
end Go.Pl
set_option linter.unusedVariables false
set_option linter.unusedSimpArgs false
namespace Go.Pl
open Go Go.Lv
theorem Az4 (k m n : Int) (f g : LB) (h : LX) (a : List LB) (b : LB) (o : Bool) (p : Int) (ha : a.length ≤ 1010) : ∀ (j i q : Nat) (v : Int), i + j = a.length → j < q → ∃ B, Ek k m n f g h a b o p q v (i : Int) = some B
 | 0, i, q + 1, v, hi, _ => by
  rw [Ek, Ks, if_neg (by simp [Af, Ac]; omega)]
  exact ⟨_, rfl⟩
 | j + 1, i, q + 1, v, hi, hq => by
  have hlt : i < a.length := by omega
  rw [Ek, Ks]
  by_cases hv : gle v 60000 = true
  ·rw [if_pos (by simp [Af, Ac, hv]; omega), Cl hlt, Aa, Ag (a := (i : Int)) (by omega) (by omega)]
   exact Az4 k m n f g h a b o p ha j (i + 1) q _ (by omega) (by omega)
  ·rw [if_neg (by simp [hv])]
   exact ⟨_, rfl⟩
theorem Bri (k m n : Int) (f g : LB) (h : LX) (a : List LB) (b : LB) (o : Bool) (p : Int) : ∃ B, Sm k m n f g h a b o p = some B ∧ (B = false → h.length ≤ 400 ∧ a.length ≤ 1010 ∧ g.length ≤ 40 ∧ b.length ≤ 100100) := by
 rw [Sm, Uk]
 split
 ·rw [if_pos (by simp)]
  exact ⟨true, rfl, fun e => by cases e⟩
 ·rename_i hc
  simp only [Bool.or_eq_true, Ap, Ac, decide_eq_true_eq, not_or] at hc
  split
  ·exact ⟨true, rfl, fun e => by cases e⟩
  ·rename_i hd
   simp only [Bool.or_eq_true, Ap, Ac, decide_eq_true_eq, not_or] at hd
   obtain ⟨B, hB⟩ := Az4 k m n f g h a b o p (by omega) a.length 0 Ay 0 (by omega) (by have := As; omega)
   exact ⟨B, hB, fun _ => by omega⟩
theorem Ba4 (k m n : Int) (o f : LB) (g : LX) (b : List LB) (h : LB) (p : Bool) (u : Int) (hb : b.length ≤ 1010) : ∀ (j i q : Nat) (v : Int), i + j = b.length → j < q → ∃ r, Mr b q v (i : Int) = some r ∧ Cm k m n o f g b h p u q v (i : Int) = some r
 | 0, i, q + 1, v, hi, _ => by
  rw [Mr, Zo, Cm, Gp, if_neg (by rw [Af, Ac]; simp; omega), if_neg (by rw [Af, Ac]; simp; omega)]
  exact ⟨v, rfl, rfl⟩
 | j + 1, i, q + 1, v, hi, hq => by
  have hlt : i < b.length := by omega
  rw [Mr, Zo, Cm, Gp, if_pos (by rw [Af, Ac]; simp; omega), if_pos (by rw [Af, Ac]; simp; omega), Cl hlt, Aa, Aa, Ag (a := (i : Int)) (by omega) (by omega)]
  exact Ba4 k m n o f g b h p u hb j (i + 1) q _ (by omega) (by omega)
theorem law_MemoryTells (a b f : Int) (g h : LB) (k : LX) (m : List LB) (n : LB) (o : Bool) (p : Int) (u v : LB) (w y aa ab ac : Int) (ad : LI) (ae : Int) (af : LB) (ag : Bool) (ah ai : Int) :
  Ou a b f g h k m n o p u v w y aa ab ac ad ae af ag ah ai = some true := by
 have hq : ∀ x : Int, geq x x = true := fun x => by rw [Az]; simp
 rw [Ou, Kg]
 obtain ⟨B, h1, h2⟩ := Bri a b f g h k m n o p
 rw [h1, Aa]
 cases B with
 | true => rfl
 | false =>
  obtain ⟨k1, k2, k3, k4⟩ := h2 rfl
  rw [if_neg (by decide)]
  obtain ⟨B, h3, h4⟩ := Bnf u v w y aa ab ac ad ae af ag ah
  rw [h3, Aa]
  cases B with
  | true => rfl
  | false =>
   obtain ⟨k5, k6, k7⟩ := h4 rfl
   rw [if_neg (by decide), Kq, Vr, Aio, Xb, Ah2, Wo]
   obtain ⟨E, e1, e2⟩ := Blp a b f g h k m n o p (by omega) (by omega) (by omega) (by omega)
   obtain ⟨D, d1, d2⟩ := Bms u v w y aa ab ac ad ae af ag ah (by omega) (by omega) (by omega)
   obtain ⟨r, r1, r2⟩ := Ba4 a b f g h k m n o p (by omega) m.length 0 Ay (Ae (Ae (Ac h) (Bb 4 (Ac k))) (Ac n)) (by omega) (by have := As; omega)
   have r3 : Am3 a b f g h k m n o p = some r := r1
   have r4 : Ny a b f g h k m n o p = some r := r2
   have bd : Amw ai = Lm ai := rfl
   have bs : ∃ z, Lm ai = some z := by
    rw [Lm]
    split <;> exact ⟨_, rfl⟩
   obtain ⟨⟨z1, z2⟩, hz⟩ := bs
   rw [e1, e2, d1, d2, bd, hz, r3, r4]
   simp only [Aa]
   by_cases hE : Bm E 0 = true <;> by_cases hD : Bm D 0 = true <;> simp [hE, hD, hq, Aa, Nz]
end Go.Pl
