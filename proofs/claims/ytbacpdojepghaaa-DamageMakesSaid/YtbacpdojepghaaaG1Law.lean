/- Proved for a statement of this seat: a part of the proof (see the text that ends in Proof). -/
import Derived.Test.YtbacpdojepghaaaG1Pure
import Derived.Test.YtbacpdojepghaaaLvNorm
set_option linter.unusedVariables false
set_option linter.unusedSimpArgs false
namespace Go.Proofs.Ytbacpdojepghaaa
open Go Go.Lv
theorem getI_eq {α : Type} {l : List α} {n : Nat} (h : n < l.length) : getI l (n : Int) = some l[n] := by
  simp [getI, h]
theorem setI_eq {α : Type} {l : List α} {n : Nat} (x : α) (h : n < l.length) : setI l (n : Int) x = some (l.set n x) := by
  simp [setI, h]
theorem appI_nil {α : Type} {l : List α} (h : l.length ≤ LIM) : appI [] l = some l := by simp [appI, h]
theorem LIM_val : LIM = 17179869184 := by decide
theorem clone_eq (b : List UInt8) : bytes_Clone b = appI [] b := rfl

/-- One byte with a bit turned. -/
def turn (out : List UInt8) (i : Nat) : List UInt8 := out.set (i / 8) ((out.getD (i / 8) 0) ^^^ gshl (1 : UInt8) (i % 8))
theorem turn_len (out : List UInt8) (i : Nat) : (turn out i).length = out.length := by simp [turn]
/-- The bits k .. 31 of the mask. -/
def burst (bit : Nat) (mask : UInt32) : Nat → Nat → Bool → List UInt8 → Bool × List UInt8
  | 0, _, ch, out => (ch, out)
  | j + 1, k, ch, out => if mask.toNat / 2 ^ k % 2 = 1 ∧ bit + k < 8 * out.length then burst bit mask j (k + 1) true (turn out (bit + k)) else burst bit mask j (k + 1) ch out
theorem and_one (x : Nat) : x &&& 1 = x % 2 := by
  exact Nat.and_two_pow_sub_one_eq_mod x 1
theorem prog_loop (bit : Nat) (mask : UInt32) : ∀ (j k fuel : Nat) (ch : Bool) (out : List UInt8), k + j = 32 → out.length ≤ 1000 → bit < 8 * out.length → j < fuel →
    damage_Burst_l1 (bit : Int) mask fuel (k : Int) ch out = some (burst bit mask j k ch out)
  | 0, k, fuel + 1, ch, out, hk, hl, hb, _ => by
    obtain rfl : k = 32 := by omega
    simp [damage_Burst_l1, glt_i, burst]
  | j + 1, k, fuel + 1, ch, out, hk, hl, hb, hf => by
    have ih := prog_loop bit mask j (k + 1) fuel
    have h1 : gadd (k : Int) 1 = ((k + 1 : Nat) : Int) := by rw [gadd_i, wrap64_id] <;> omega
    have h2 : gadd (bit : Int) (k : Int) = ((bit + k : Nat) : Int) := by rw [gadd_i, wrap64_id] <;> omega
    have h3 : gmul (8 : Int) (lenI out) = ((8 * out.length : Nat) : Int) := by rw [gmul_i, lenI, wrap64_id] <;> omega
    have h4 : gquo ((bit + k : Nat) : Int) 8 = (((bit + k) / 8 : Nat) : Int) := by
      rw [gquo_i, Int.tdiv_eq_ediv_of_nonneg (by omega), wrap64_id] <;> omega
    have h5 : irem ((bit + k : Nat) : Int) 8 = (((bit + k) % 8 : Nat) : Int) := by
      rw [irem, Int.tmod_eq_emod_of_nonneg (by omega)]; omega
    have h6 : geq (gand (gshr mask (k : Int).toNat) (1 : UInt32)) (1 : UInt32) = decide (mask.toNat / 2 ^ k % 2 = 1) := by
      rw [gand_u32, geq_u32, Bool.eq_iff_iff]
      simp only [beq_iff_eq, decide_eq_true_eq, Int.toNat_natCast]
      rw [← UInt32.toNat_inj, UInt32.toNat_and, gshr_u32]
      simp [and_one]
    rw [damage_Burst_l1, h1, h2, h3, h4, h5, h6]
    rw [if_pos (by rw [glt_i]; simp; omega), show okI (gge (k : Int) 0) = some () by simp [okI, gge_i], Option.bind_some]
    simp only [burst]
    by_cases hm : mask.toNat / 2 ^ k % 2 = 1
    · rw [if_pos (by simpa using hm)]
      by_cases hlt : bit + k < 8 * out.length
      · rw [if_pos (by rw [glt_i]; simp; omega), if_pos ⟨hm, hlt⟩, getI_eq (by omega), Option.bind_some, show okI (gge (((bit + k) % 8 : Nat) : Int) 0) = some () by simp [okI, gge_i]; omega, Option.bind_some,
          setI_eq _ (by omega), Option.bind_some, Option.bind_some]
        have hd : out.getD ((bit + k) / 8) 0 = out[(bit + k) / 8]'(by omega) := by
          rw [List.getD_eq_getElem?_getD, List.getElem?_eq_getElem (by omega)]; rfl
        have ht : out.set ((bit + k) / 8) (gxor (out[(bit + k) / 8]'(by omega)) (gshl (1 : UInt8) (((bit + k) % 8 : Nat) : Int).toNat)) = turn out (bit + k) := by
          rw [turn, hd, gxor_u8, Int.toNat_natCast]
        rw [ht]
        exact ih true _ (by omega) (by rw [turn_len]; omega) (by rw [turn_len]; omega) (by omega)
      · rw [if_neg (by rw [glt_i]; simp; omega), if_neg (fun h => hlt h.2), Option.bind_some]
        exact ih ch out (by omega) hl hb (by omega)
    · rw [if_neg (by simpa using hm), if_neg (fun h => hm h.1)]
      exact ih ch out (by omega) hl hb (by omega)

theorem ref_inner (a : Int) (k : Int) (m : Nat) (hm : m < 8) (h : irem (gadd a k) 8 = (m : Int)) : ∀ (j i fuel : Nat), i + j = m → j < fuel →
    cadenzaref44_Burst_l2 a k fuel (gshl (1 : UInt8) i) (i : Int) = some (gshl (1 : UInt8) m, (m : Int))
  | 0, i, fuel + 1, hi, _ => by
    obtain rfl : i = m := by omega
    rw [cadenzaref44_Burst_l2, h, if_neg (by rw [glt_i]; simp)]
  | j + 1, i, fuel + 1, hi, hf => by
    rw [cadenzaref44_Burst_l2, h, if_pos (by rw [glt_i]; simp; omega)]
    have h1 : gadd (i : Int) 1 = ((i + 1 : Nat) : Int) := by rw [gadd_i, wrap64_id] <;> omega
    have h2 : gmul (gshl (1 : UInt8) i) 2 = gshl (1 : UInt8) (i + 1) := by
      rw [gmul_u8]; apply UInt8.toNat_inj.1
      rw [UInt8.toNat_mul, gshl_u8, gshl_u8]; simp [Nat.pow_succ]
    rw [h1, h2]
    exact ref_inner a k m hm h j (i + 1) fuel (by omega) (by omega)
theorem burst_off (bit : Nat) (mask : UInt32) : ∀ (j k : Nat) (ch : Bool) (out : List UInt8), 8 * out.length ≤ bit + k → burst bit mask j k ch out = (ch, out)
  | 0, _, _, _, _ => rfl
  | j + 1, k, ch, out, h => by
    rw [burst, if_neg (fun h' => by omega)]
    exact burst_off bit mask j (k + 1) ch out (by omega)
theorem ref_loop (b : List UInt8) (bit : Nat) (mask : UInt32) : ∀ (j k fuel : Nat) (ch : Bool) (out : List UInt8) (mk : UInt32), k + j = 32 → out.length = b.length → out.length ≤ 1000 → bit < 8 * out.length → j < fuel →
    mk.toNat = mask.toNat / 2 ^ k →
    cadenzaref44_Burst_l1 b (bit : Int) fuel (k : Int) mk out ch = some ((burst bit mask j k ch out).2, (burst bit mask j k ch out).1)
  | 0, k, fuel + 1, ch, out, mk, hk, hlb, hl, hb, _, hmk => by
    obtain rfl : k = 32 := by omega
    simp [cadenzaref44_Burst_l1, glt_i, burst]
  | j + 1, k, fuel + 1, ch, out, mk, hk, hlb, hl, hb, hf, hmk => by
    have ih := ref_loop b bit mask j (k + 1) fuel
    have h1 : gadd (k : Int) 1 = ((k + 1 : Nat) : Int) := by rw [gadd_i, wrap64_id] <;> omega
    have h2 : gadd (bit : Int) (k : Int) = ((bit + k : Nat) : Int) := by rw [gadd_i, wrap64_id] <;> omega
    have h3 : gmul (8 : Int) (lenI b) = ((8 * b.length : Nat) : Int) := by rw [gmul_i, lenI, wrap64_id] <;> omega
    have h4 : gquo ((bit + k : Nat) : Int) 8 = (((bit + k) / 8 : Nat) : Int) := by
      rw [gquo_i, Int.tdiv_eq_ediv_of_nonneg (by omega), wrap64_id] <;> omega
    have h5 : irem (gadd (bit : Int) (k : Int)) 8 = (((bit + k) % 8 : Nat) : Int) := by
      rw [h2, irem, Int.tmod_eq_emod_of_nonneg (by omega)]; omega
    have h6 : geq (grem mk 2) (1 : UInt32) = decide (mask.toNat / 2 ^ k % 2 = 1) := by
      rw [grem_u32, geq_u32, Bool.eq_iff_iff]
      simp only [beq_iff_eq, decide_eq_true_eq]
      rw [← UInt32.toNat_inj, UInt32.toNat_mod, hmk]; rfl
    have h7 : (gquo mk (2 : UInt32)).toNat = mask.toNat / 2 ^ (k + 1) := by
      rw [gquo_u32, UInt32.toNat_div, hmk, Nat.pow_succ, Nat.div_div_eq_div_mul]; rfl
    have hin := ref_inner (bit : Int) (k : Int) ((bit + k) % 8) (by omega) h5 ((bit + k) % 8) 0 FUEL (by omega) (by unfold FUEL; omega)
    rw [show gshl (1 : UInt8) 0 = 1 by decide, show ((0 : Nat) : Int) = 0 from rfl] at hin
    rw [cadenzaref44_Burst_l1, h1, hin, h2, h3, h4, h6]
    by_cases hlt : bit + k < 8 * out.length
    · rw [if_pos (by simp [glt_i]; omega)]
      simp only [burst]
      by_cases hm : mask.toNat / 2 ^ k % 2 = 1
      · rw [if_pos (by simpa using hm), if_pos ⟨hm, hlt⟩, Option.bind_some, getI_eq (by omega), Option.bind_some, setI_eq _ (by omega), Option.bind_some]
        have hd : out.getD ((bit + k) / 8) 0 = out[(bit + k) / 8]'(by omega) := by
          rw [List.getD_eq_getElem?_getD, List.getElem?_eq_getElem (by omega)]; rfl
        have ht : out.set ((bit + k) / 8) (gxor (out[(bit + k) / 8]'(by omega)) (gshl (1 : UInt8) ((bit + k) % 8))) = turn out (bit + k) := by
          rw [turn, hd, gxor_u8]
        rw [ht]
        exact ih true _ _ (by omega) (by rw [turn_len]; omega) (by rw [turn_len]; omega) (by rw [turn_len]; omega) (by omega) h7
      · rw [if_neg (by simpa using hm), if_neg (fun h => hm h.1)]
        exact ih ch out _ (by omega) hlb hl hb (by omega) h7
    · rw [if_neg (by simp [glt_i]; omega), burst_off bit mask (j + 1) k ch out (by omega)]
theorem prog_Burst (b : List UInt8) (bit : Int) (mask : UInt32) (hl : b.length ≤ 1000) : ∃ y, damage_Burst b bit mask = some y ∧ cadenzaref44_Burst b bit mask = some y := by
  have h3 : gmul (8 : Int) (lenI b) = ((8 * b.length : Nat) : Int) := by rw [gmul_i, lenI, wrap64_id] <;> omega
  unfold damage_Burst cadenzaref44_Burst
  rw [h3]
  by_cases hb : (glt bit 0 || gge bit ((8 * b.length : Nat) : Int)) = true
  · rw [if_pos hb, if_pos hb]; exact ⟨_, rfl, rfl⟩
  · rw [if_neg hb, if_neg hb]
    simp only [glt_i, gge_i, Bool.or_eq_true, decide_eq_true_eq, not_or] at hb
    obtain ⟨n, rfl⟩ : ∃ n : Nat, bit = (n : Int) := ⟨bit.toNat, by omega⟩
    have hf : 32 < FUEL := by unfold FUEL; omega
    have e0 : ((0 : Nat) : Int) = 0 := rfl
    have h1 := prog_loop n mask 32 0 FUEL false b (by omega) hl (by omega) hf
    have h2 := ref_loop b n mask 32 0 FUEL false b mask (by omega) rfl hl (by omega) hf (by simp)
    rw [e0] at h1 h2
    rw [clone_eq, appI_nil (by rw [LIM_val]; omega), Option.bind_some, Option.bind_some, h1, h2, Option.bind_some, Option.bind_some]
    generalize burst n mask 32 0 false b = r
    obtain ⟨c, l⟩ := r
    cases c <;> exact ⟨_, rfl, rfl⟩
theorem prog_Flip (b : List UInt8) (i : Int) (x : UInt8) (hl : b.length ≤ 1000) : ∃ y, damage_Flip b i x = some y ∧ cadenzaref44_Flip b i x = some y := by
  unfold damage_Flip cadenzaref44_Flip
  by_cases hb : (glt i 0 || gge i (lenI b) || geq x 0) = true
  · rw [if_pos hb, if_pos hb]; exact ⟨_, rfl, rfl⟩
  · rw [if_neg hb, if_neg hb]
    simp only [glt_i, gge_i, lenI, Bool.or_eq_true, decide_eq_true_eq, not_or] at hb
    obtain ⟨n, rfl⟩ : ∃ n : Nat, i = (n : Int) := ⟨i.toNat, by omega⟩
    rw [clone_eq, appI_nil (by rw [LIM_val]; omega), Option.bind_some, getI_eq (by omega), Option.bind_some, setI_eq _ (by omega), Option.bind_some]
    exact ⟨_, rfl, rfl⟩
theorem DamageMakes_true (b : List UInt8) (i : Int) (x : UInt8) (bit : Int) (mask : UInt32) : cadenzalaw44_DamageMakes b i x bit mask = some true := by
  unfold cadenzalaw44_DamageMakes
  by_cases hl : 1000 < b.length
  · rw [if_pos (by simp [ggt_i, lenI]; omega)]
  · rw [if_neg (by simp [ggt_i, lenI]; omega), appI_nil (by rw [LIM_val]; omega), Option.bind_some]
    obtain ⟨⟨y, e⟩, h1, h2⟩ := prog_Flip b i x (by omega)
    obtain ⟨⟨z, f⟩, h3, h4⟩ := prog_Burst b bit mask (by omega)
    simp [h1, h2, h3, h4, geq_i]
end Go.Proofs.Ytbacpdojepghaaa
