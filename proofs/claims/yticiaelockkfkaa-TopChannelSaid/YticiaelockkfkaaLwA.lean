/- A part of the proof of a statement of this seat (see the text that ends in Proof): LwBase, LwMix, LwChan, LwWidth, LwTop19. No conditions of its own. -/
import Derived.Test.YticiaelockkfkaaLvAll
import Derived.Test.YticiaelockkfkaaTPure
set_option linter.unusedVariables false
set_option linter.unusedSimpArgs false
namespace Go.Lv
/-! ### plain steps, where nothing overflows -/
theorem gadd_n {a b : Int} (h : -9223372036854775808 ≤ a + b) (h' : a + b ≤ 9223372036854775807) : gadd a b = a + b := by rw [gadd_i, wrap64_id h h']
theorem gsub_n {a b : Int} (h : -9223372036854775808 ≤ a - b) (h' : a - b ≤ 9223372036854775807) : gsub a b = a - b := by rw [gsub_i, wrap64_id h h']
theorem gmul_n {a b : Int} (h : -9223372036854775808 ≤ a * b) (h' : a * b ≤ 9223372036854775807) : gmul a b = a * b := by rw [gmul_i, wrap64_id h h']
theorem gconv_u8i (c : UInt8) : (gconv c : Int) = (c.toNat : Int) := by rw [gconv_u8, wrap64_id] <;> have := c.toNat_lt <;> omega
theorem gconv_u32i (c : UInt32) : (gconv c : Int) = (c.toNat : Int) := by rw [gconv_u32, wrap64_id] <;> have := c.toNat_lt <;> omega
theorem gconv_8_64 (c : UInt8) : (gconv c : UInt64) = UInt64.ofNat c.toNat := by simp only [gconv, toZ_u8, ofZ_u64_nat]
theorem gconv_32_64 (c : UInt32) : (gconv c : UInt64) = UInt64.ofNat c.toNat := by simp only [gconv, toZ_u32, ofZ_u64_nat]
theorem gconv_64_8 (c : UInt64) : (gconv c : UInt8) = UInt8.ofNat c.toNat := by simp only [gconv, toZ_u64, ofZ_u8_nat]
theorem gconv_32_8 (c : UInt32) : (gconv c : UInt8) = UInt8.ofNat c.toNat := by simp only [gconv, toZ_u32, ofZ_u8_nat]
theorem gconv_n64 (n : Nat) : (gconv (n : Int) : UInt64) = UInt64.ofNat n := by simp only [gconv]; exact ofZ_u64_nat n
theorem gconv_n32 (n : Nat) : (gconv (n : Int) : UInt32) = UInt32.ofNat n := by simp only [gconv]; exact ofZ_u32_nat n
theorem gconv_n8 (n : Nat) : (gconv (n : Int) : UInt8) = UInt8.ofNat n := by simp only [gconv]; exact ofZ_u8_nat n
theorem gconv_64i {c : UInt64} (h : c.toNat < 9223372036854775808) : (gconv c : Int) = (c.toNat : Int) := by rw [gconv_u64, wrap64_id] <;> omega
theorem LIM_val : LIM = 17179869184 := by decide
theorem FUEL_gt : 36893488147419103231 < FUEL := by decide
theorem getI_n {α : Type} {l : List α} {n : Nat} (h : n < l.length) : getI l (n : Int) = some l[n] := by simp [getI, h]
theorem getI_z {α : Type} {l : List α} {i : Int} (h : 0 ≤ i) (h' : i < l.length) : getI l i = some (l[i.toNat]'(by omega)) := by
  obtain ⟨n, rfl⟩ := Int.eq_ofNat_of_zero_le h
  simpa using getI_n (by omega)
theorem setI_n {α : Type} {l : List α} {n : Nat} (x : α) (h : n < l.length) : setI l (n : Int) x = some (l.set n x) := by simp [setI, h]
theorem cutI_n {α : Type} {l : List α} {a b : Int} (h : 0 ≤ a) (h1 : a ≤ b) (h2 : b ≤ l.length) : cutI l a b = some ((l.take b.toNat).drop a.toNat) := by rw [cutI, if_pos ⟨h, h1, h2⟩]
theorem cutI_from {α : Type} {l : List α} {a : Int} (h : 0 ≤ a) (h1 : a ≤ l.length) : cutI l a (lenI l) = some (l.drop a.toNat) := by
  unfold lenI; rw [cutI_n h h1 (Int.le_refl _), Int.toNat_natCast, List.take_length]
theorem cutI_to {α : Type} {l : List α} {b : Int} (h : 0 ≤ b) (h1 : b ≤ l.length) : cutI l 0 b = some (l.take b.toNat) := by rw [cutI_n (Int.le_refl _) h h1]; rfl
theorem appI_n {α : Type} {l m : List α} (h : l.length + m.length ≤ 17179869184) : appI l m = some (l ++ m) := by rw [appI, LIM_val, if_pos h]
theorem mkI_n {α : Type} {n : Int} {z : α} (h : 0 ≤ n) (h' : n ≤ 17179869184) : mkI n z = some (List.replicate n.toNat z) := by rw [mkI, LIM_val, if_pos ⟨h, h'⟩]
theorem okI_t : okI true = some () := rfl
theorem okI_of {b : Bool} (h : b = true) : okI b = some () := by rw [h]; rfl
theorem bind_s {α β : Type} (a : α) (f : α → Option β) : Option.bind (some a) f = f a := rfl
theorem take_drop_len {α : Type} (l : List α) (a b : Nat) (h : b ≤ l.length) : ((l.take b).drop a).length = b - a := by simp; omega
theorem drop_cons {α : Type} {l : List α} {n : Nat} (h : n < l.length) : l.drop n = l[n] :: l.drop (n + 1) := List.drop_eq_getElem_cons h
theorem take_snoc {α : Type} {l : List α} {n : Nat} (h : n < l.length) : l.take (n + 1) = l.take n ++ [l[n]] := by rw [List.take_add_one, List.getElem?_eq_getElem h]; rfl

/-! ### numbers of bytes, the lowest first -/
def leN : List UInt8 → Nat
  | [] => 0
  | x :: r => x.toNat + 256 * leN r
theorem leN_lt : ∀ l : List UInt8, leN l < 256 ^ l.length
  | [] => by simp [leN]
  | x :: r => by
    have h := leN_lt r
    have := x.toNat_lt
    simp only [leN, List.length_cons, Nat.pow_succ]
    omega
theorem leN_append : ∀ l m : List UInt8, leN (l ++ m) = leN l + 256 ^ l.length * leN m
  | [], m => by simp [leN]
  | x :: r, m => by
    simp only [leN, List.cons_append, leN_append r m, List.length_cons, Nat.pow_succ, Nat.mul_add]
    rw [Nat.mul_comm (256 ^ r.length) 256, Nat.mul_assoc]; omega
def leU (l : List UInt8) : UInt64 := UInt64.ofNat (leN l)
theorem leN_lt8 {l : List UInt8} (h : l.length ≤ 8) : leN l < 18446744073709551616 := by
  have h1 := leN_lt l
  have h2 : 256 ^ l.length ≤ 256 ^ 8 := Nat.pow_le_pow_right (by omega) h
  exact Nat.lt_of_lt_of_le h1 (by simpa using h2)
theorem leN_lt4 {l : List UInt8} (h : l.length ≤ 4) : leN l < 4294967296 := by
  have h1 := leN_lt l
  have h2 : 256 ^ l.length ≤ 256 ^ 4 := Nat.pow_le_pow_right (by omega) h
  exact Nat.lt_of_lt_of_le h1 (by simpa using h2)
theorem leU_nat {l : List UInt8} (h : l.length ≤ 8) : (leU l).toNat = leN l := by
  rw [leU, UInt64.toNat_ofNat', Nat.mod_eq_of_lt (leN_lt8 h)]
theorem leU_int {l : List UInt8} (h : l.length ≤ 4) : (gconv (leU l) : Int) = (leN l : Int) := by
  have := leN_lt4 h
  rw [gconv_64i] <;> rw [leU_nat (by omega)]; omega
/-- The bytes of a number. -/
def leB (n : Nat) : Nat → List UInt8
  | 0 => []
  | w + 1 => UInt8.ofNat n :: leB (n / 256) w
theorem leB_len : ∀ (w n : Nat), (leB n w).length = w
  | 0, _ => rfl
  | w + 1, n => by simp [leB, leB_len w]
theorem leB_snoc : ∀ (w n : Nat), leB n (w + 1) = leB n w ++ [UInt8.ofNat (n / 256 ^ w)]
  | 0, n => by simp [leB]
  | w + 1, n => by
    rw [leB, leB_snoc w (n / 256), leB]
    simp [Nat.div_div_eq_div_mul, Nat.pow_succ, Nat.mul_comm]
end Go.Lv

set_option linter.unusedVariables false
set_option linter.unusedSimpArgs false
namespace Go.Pl
open Go Go.Lv
/-! ### Int32 -/
theorem ofZ_i32 (n : Int) : (GI.ofZ n : Int32) = Int32.ofInt n := rfl
theorem toZ_i32 (a : Int32) : GI.toZ a = a.toInt := rfl
theorem gadd_i32 (a b : Int32) : gadd a b = a + b := by
  rw [gadd, toZ_i32, toZ_i32, ofZ_i32, Int32.ofInt_add, Int32.ofInt_toInt, Int32.ofInt_toInt]
theorem gsub_i32 (a b : Int32) : gsub a b = a - b := by
  rw [gsub, toZ_i32, toZ_i32, ofZ_i32, Int32.ofInt_sub, Int32.ofInt_toInt, Int32.ofInt_toInt]
theorem geq_i32 (a b : Int32) : geq a b = (a == b) := by
  rw [geq, toZ_i32, toZ_i32, Bool.eq_iff_iff]; simp [Int32.toInt_inj]
theorem gne_i32 (a b : Int32) : gne a b = (a != b) := by
  rw [gne, toZ_i32, toZ_i32, Bool.eq_iff_iff]; simp [Int32.toInt_inj]
/-! ### lists of which some places are of another -/
def sel (p : Nat → Bool) (a b : List Int32) : List Int32 := (List.range a.length).map fun k => if p k = true then a.getD k 0 else b.getD k 0
section
variable {p q : Nat → Bool} {a b : List Int32}
theorem sel_len : (sel p a b).length = a.length := by simp [sel]
theorem getD_lt {k : Nat} (h : k < a.length) : a.getD k 0 = a[k] := by simp [List.getD_eq_getElem?_getD, h]
theorem sel_getElem {k : Nat} (h : k < (sel p a b).length) : (sel p a b)[k] = if p k = true then a.getD k 0 else b.getD k 0 := by simp [sel]
theorem sel_get {k : Nat} (h : k < a.length) : getI (sel p a b) (k : Int) = some (if p k = true then a.getD k 0 else b.getD k 0) := by
  rw [getI_n (by rw [sel_len]; exact h), sel_getElem]
theorem sel_congr (h : ∀ k, k < a.length → p k = q k) : sel p a b = sel q a b := by
  apply List.map_congr_left
  intro k hk
  rw [h k (List.mem_range.1 hk)]
theorem sel_set {k : Nat} (h : k < a.length) : setI (sel p a b) (k : Int) (a.getD k 0) = some (sel (fun j => p j || decide (j = k)) a b) := by
  rw [setI_n _ (by rw [sel_len]; exact h)]
  congr 1
  apply List.ext_getElem (by simp [sel_len])
  intro i h1 h2
  rw [List.getElem_set, sel_getElem, sel_getElem]
  by_cases hi : k = i
  · subst hi; simp
  · have : ¬ i = k := fun e => hi e.symm
    simp [hi, this]
theorem sel_all (h : ∀ k, k < a.length → p k = true) : sel p a b = a := by
  apply List.ext_getElem (by simp [sel_len])
  intro i h1 h2
  rw [sel_getElem, if_pos (h i h2), getD_lt h2]
theorem sel_none (hl : b.length = a.length) (h : ∀ k, k < a.length → p k = false) : sel p a b = b := by
  apply List.ext_getElem (by simp [sel_len, hl])
  intro i h1 h2
  rw [sel_getElem, h i (by omega)]
  simp [List.getD_eq_getElem?_getD, h2]
end
/-! ### channels that are mixed -/
/-- What stands at place k when all is mixed. -/
def mixAt (ch : Nat) (l : List Int32) (k : Nat) : Int32 :=
  if k % ch + 1 < ch then l.getD (k + 1) 0 - l.getD k 0 else if ch = 1 then l.getD k 0 else l.getD k 0 - gquo (l.getD k 0 - l.getD (k - 1) 0) (2 : Int32)
def mixS (ch : Nat) (l : List Int32) : List Int32 := (List.range l.length).map (mixAt ch l)
theorem mixS_len (ch : Nat) (l : List Int32) : (mixS ch l).length = l.length := by simp [mixS]
theorem mixS_get (ch : Nat) (l : List Int32) {k : Nat} (h : k < l.length) : (mixS ch l).getD k 0 = mixAt ch l k := by
  rw [getD_lt (by rw [mixS_len]; exact h)]; simp [mixS]
theorem blk_mod {ch j i : Nat} (h : i < ch) : (j * ch + i) % ch = i := by rw [Nat.add_comm, Nat.add_mul_mod_self_right, Nat.mod_eq_of_lt h]
theorem okI_d {c : Prop} [Decidable c] (h : c) : okI (decide c) = some () := by rw [decide_eq_true h]; rfl
variable (ch : Nat) (l : List Int32)
/-- One block: its first places. -/
theorem mix_inner (bk : Int → List Int32 → Option (List Int32 × Int)) (at' : Nat) (h1 : 1 ≤ ch) (h6 : ch ≤ 6) (hm : at' % ch = 0) (hl : at' + ch ≤ l.length) (hl2 : l.length ≤ 4000) : ∀ (j i q : Nat), i + j + 1 = ch → j < q →
    mix_All_l17 bk (ch : Int) (at' : Int) q (i : Int) (sel (fun k => decide (k < at' + i)) (mixS ch l) l) = mix_All_p19 bk (ch : Int) (at' : Int) (sel (fun k => decide (k < at' + (ch - 1))) (mixS ch l) l)
  | 0, i, q + 1, hi, _ => by
    have e1 : gsub (gadd (at' : Int) (ch : Int) - (at' : Int)) 1 = ((ch - 1 : Nat) : Int) := by rw [gadd_n (by omega) (by omega), gsub_n (by omega) (by omega)]; omega
    rw [mix_All_l17, mix_All_s17, e1, if_neg (by rw [glt_i]; simp; omega), show i = ch - 1 by omega]
  | j + 1, i, q + 1, hi, hq => by
    have e1 : gsub (gadd (at' : Int) (ch : Int) - (at' : Int)) 1 = ((ch - 1 : Nat) : Int) := by rw [gadd_n (by omega) (by omega), gsub_n (by omega) (by omega)]; omega
    have e2 : gadd (at' : Int) (ch : Int) - (at' : Int) = (ch : Int) := by rw [gadd_n (by omega) (by omega)]; omega
    have e3 : gadd (i : Int) 1 = ((i + 1 : Nat) : Int) := by rw [gadd_n (by omega) (by omega)]; omega
    have hlen := mixS_len ch l
    have hb : (at' + i) % ch = i := by rw [Nat.add_mod, hm, Nat.zero_add, Nat.mod_mod, Nat.mod_eq_of_lt (by omega)]
    have hv : (l.getD (at' + i + 1) 0 - l.getD (at' + i) 0) = (mixS ch l).getD (at' + i) 0 := by
      rw [mixS_get ch l (by omega), mixAt, hb, if_pos (by omega)]
    rw [mix_All_l17, mix_All_s17, e1, e2, e3, if_pos (by rw [glt_i]; simp; omega), okI_d (by omega), bind_s, okI_d (by omega), bind_s,
      show (at' : Int) + ((i + 1 : Nat) : Int) = ((at' + i + 1 : Nat) : Int) by omega, show (at' : Int) + (i : Int) = ((at' + i : Nat) : Int) by omega,
      sel_get (by omega), bind_s, sel_get (by omega), bind_s, bind_s, if_neg (by simp), if_neg (by simp), gsub_i32, hv, sel_set (by omega), bind_s]
    have ih := mix_inner bk at' h1 h6 hm hl hl2 j (i + 1) q (by omega) (by omega)
    rw [← ih]
    congr 1
    apply sel_congr
    intro k _
    rw [Bool.eq_iff_iff]; simp; omega
theorem mix_last (bk : Int → List Int32 → Option (List Int32 × Int)) (at' : Nat) (h1 : 1 ≤ ch) (h6 : ch ≤ 6) (hm : at' % ch = 0) (hl : at' + ch ≤ l.length) (hl2 : l.length ≤ 4000) :
    mix_All_p19 bk (ch : Int) (at' : Int) (sel (fun k => decide (k < at' + (ch - 1))) (mixS ch l) l) = bk ((at' + ch : Nat) : Int) (sel (fun k => decide (k < at' + ch)) (mixS ch l) l) := by
  have hlen := mixS_len ch l
  have e1 : gsub (gadd (at' : Int) (ch : Int) - (at' : Int)) 1 = ((ch - 1 : Nat) : Int) := by rw [gadd_n (by omega) (by omega), gsub_n (by omega) (by omega)]; omega
  have e2 : gadd (at' : Int) (ch : Int) - (at' : Int) = (ch : Int) := by rw [gadd_n (by omega) (by omega)]; omega
  have e4 : gadd (at' : Int) (ch : Int) = ((at' + ch : Nat) : Int) := by rw [gadd_n (by omega) (by omega)]; omega
  have hb : (at' + (ch - 1)) % ch = ch - 1 := by rw [Nat.add_mod, hm, Nat.zero_add, Nat.mod_mod, Nat.mod_eq_of_lt (by omega)]
  rw [mix_All_p19, mix_All_s19, e1, e2]
  by_cases hc : 1 < ch
  · have e5 : gsub ((ch - 1 : Nat) : Int) 1 = ((ch - 2 : Nat) : Int) := by rw [gsub_n (by omega) (by omega)]; omega
    have hv : (l.getD (at' + (ch - 1)) 0 - gquo ((mixS ch l).getD (at' + (ch - 2)) 0) (2 : Int32)) = (mixS ch l).getD (at' + (ch - 1)) 0 := by
      have hb2 : (at' + (ch - 2)) % ch = ch - 2 := by rw [Nat.add_mod, hm, Nat.zero_add, Nat.mod_mod, Nat.mod_eq_of_lt (by omega)]
      rw [mixS_get ch l (by omega), mixS_get ch l (by omega), mixAt, mixAt, hb, hb2, if_pos (by omega), if_neg (by omega), if_neg (by omega), show at' + (ch - 2) + 1 = at' + (ch - 1) by omega, show at' + (ch - 1) - 1 = at' + (ch - 2) by omega]
    rw [if_pos (by rw [ggt_i]; simp; omega), okI_d (by omega), bind_s, e5, okI_d (by omega), bind_s, show (at' : Int) + ((ch - 1 : Nat) : Int) = ((at' + (ch - 1) : Nat) : Int) by omega, show (at' : Int) + ((ch - 2 : Nat) : Int) = ((at' + (ch - 2) : Nat) : Int) by omega,
      sel_get (by omega), bind_s, sel_get (by omega), bind_s, bind_s, if_neg (by simp), if_pos (by simp; omega), gsub_i32, hv, sel_set (by omega), bind_s, mix_All_p20, mix_All_s20, e4]
    congr 1
    apply sel_congr
    intro k _
    rw [Bool.eq_iff_iff]; simp; omega
  · obtain rfl : ch = 1 := by omega
    rw [if_neg (by rw [ggt_i]; simp), mix_All_p20, mix_All_s20, e4]
    congr 1
    have hM : mixS 1 l = l := by
      apply List.ext_getElem (by simp [mixS])
      intro i h1 h2
      simp [mixS, mixAt, Nat.mod_one, h2, List.getD_eq_getElem?_getD]
    rw [hM]
    rw [show sel (fun k => decide (k < at' + (1 - 1))) l l = l by
        apply List.ext_getElem (by simp [sel_len]); intro i h1 h2; rw [sel_getElem]; simp [h2, List.getD_eq_getElem?_getD],
      show sel (fun k => decide (k < at' + 1)) l l = l by
        apply List.ext_getElem (by simp [sel_len]); intro i h1 h2; rw [sel_getElem]; simp [h2, List.getD_eq_getElem?_getD]]
theorem mix_loop (h1 : 1 ≤ ch) (h6 : ch ≤ 6) (hm : l.length % ch = 0) (hl2 : l.length ≤ 4000) : ∀ (j at' q : Nat), at' % ch = 0 → at' ≤ l.length → l.length - at' ≤ j → j < q →
    mix_All_l12 (ch : Int) q (at' : Int) (sel (fun k => decide (k < at')) (mixS ch l) l) = some (mixS ch l, 0)
  | j, at', q + 1, ha, hle, hj, hq => by
    have hlen := mixS_len ch l
    have hl : lenI (sel (fun k => decide (k < at')) (mixS ch l) l) = (l.length : Int) := by rw [lenI, sel_len, hlen]
    rw [mix_All_l12, mix_All_s12, hl]
    by_cases h : at' < l.length
    · have hb : at' + ch ≤ l.length := by
        have d1 := Nat.div_add_mod at' ch
        have d2 := Nat.div_add_mod l.length ch
        rw [ha, Nat.add_zero] at d1
        rw [hm, Nat.add_zero] at d2
        have hlt : at' / ch < l.length / ch := by
          rcases Nat.lt_or_ge (at' / ch) (l.length / ch) with h' | h'
          · exact h'
          · have := Nat.mul_le_mul_left ch h'; omega
        have := Nat.mul_le_mul_left ch (show at' / ch + 1 ≤ l.length / ch from hlt)
        rw [Nat.mul_add] at this; omega
      obtain ⟨j, rfl⟩ : ∃ k, j = k + 1 := ⟨j - 1, by omega⟩
      have e4 : gadd (at' : Int) (ch : Int) = ((at' + ch : Nat) : Int) := by rw [gadd_n (by omega) (by omega)]; omega
      have hi := mix_inner ch l (mix_All_l12 (ch : Int) q) at' h1 h6 ha hb hl2 (ch - 1) 0 FUEL (by omega) (by have := FUEL_gt; omega)
      rw [if_pos (by rw [glt_i]; simp; omega), e4, show vwI (l.length : Int) (at' : Int) ((at' + ch : Nat) : Int) = some () by rw [vwI, okI_d]; omega, bind_s, mix_All_p17]
      rw [Nat.add_zero] at hi
      refine Eq.trans hi ?_
      rw [mix_last ch l _ at' h1 h6 ha hb hl2]
      exact mix_loop h1 h6 hm hl2 j (at' + ch) q (by rw [Nat.add_mod_right, ha]) hb (by omega) (by omega)
    · rw [if_neg (by rw [glt_i]; simp; omega), sel_all (fun k hk => by simp; omega)]
      rfl
theorem mixCheck (h1 : 1 ≤ ch) (h6 : ch ≤ 6) (hm : l.length % ch = 0) (hl2 : l.length ≤ 4000) : mix_check (ch : Int) l = some 0 := by
  rw [mix_check, if_neg (by simp [glt_i, ggt_i]; omega), if_neg (by rw [ggt_i, lenI]; simp; omega), okI_of (by rw [gne_i]; simp; omega), bind_s, if_neg]
  rw [gne_i, irem, lenI, ← Int.ofNat_tmod, hm]; simp
theorem mix_eq (h1 : 1 ≤ ch) (h6 : ch ≤ 6) (hm : l.length % ch = 0) (hl2 : l.length ≤ 4000) : mix_All (ch : Int) l = some (mixS ch l, 0) := by
  have h := mix_loop ch l h1 h6 hm hl2 l.length 0 FUEL (by simp) (by omega) (by omega) (by have := FUEL_gt; omega)
  rw [mix_All, mix_All_s0, mixCheck ch l h1 h6 hm hl2, bind_s, if_neg (by rw [gne_i]; simp), slices_Clone_int32_int32, appI_n (by simp; omega), bind_s, bind_s, List.nil_append, mix_All_p12]
  rw [sel_none (by rw [mixS_len]) (fun k _ => by simp)] at h
  exact h
/-! undone -/
theorem unmix_loop (bk : Int → List Int32 → Option (List Int32 × Int)) (at' : Nat) (h1 : 1 ≤ ch) (h6 : ch ≤ 6) (hm : at' % ch = 0) (hl : at' + ch ≤ l.length) (hl2 : l.length ≤ 4000) : ∀ (i q : Nat), i ≤ ch - 1 → i < q →
    mix_Undo_l18 bk (ch : Int) (at' : Int) q ((i : Int) - 1) (sel (fun k => decide (k < at' ∨ (at' + i ≤ k ∧ k < at' + ch))) l (mixS ch l)) = bk ((at' + ch : Nat) : Int) (sel (fun k => decide (k < at' + ch)) l (mixS ch l))
  | 0, q + 1, hi, _ => by
    have e4 : gadd (at' : Int) (ch : Int) = ((at' + ch : Nat) : Int) := by rw [gadd_n (by omega) (by omega)]; omega
    rw [mix_Undo_l18, mix_Undo_s18, if_neg (by rw [gge_i]; simp), mix_Undo_p20, mix_Undo_s20, e4]
    congr 1
    apply sel_congr
    intro k _
    rw [Bool.eq_iff_iff]; simp; omega
  | i + 1, q + 1, hi, hq => by
    have hlen := mixS_len ch l
    have e2 : gadd (at' : Int) (ch : Int) - (at' : Int) = (ch : Int) := by rw [gadd_n (by omega) (by omega)]; omega
    have e3 : gadd (i : Int) 1 = ((i + 1 : Nat) : Int) := by rw [gadd_n (by omega) (by omega)]; omega
    have hb : (at' + i) % ch = i := by rw [Nat.add_mod, hm, Nat.zero_add, Nat.mod_mod, Nat.mod_eq_of_lt (by omega)]
    have hv : (l.getD (at' + i + 1) 0 - (mixS ch l).getD (at' + i) 0) = l.getD (at' + i) 0 := by
      rw [mixS_get ch l (by omega), mixAt, hb, if_pos (by omega)]
      generalize l.getD (at' + i + 1) 0 = x
      generalize l.getD (at' + i) 0 = y
      apply Int32.toBitVec_inj.1
      simp only [Int32.toBitVec_sub]
      bv_omega
    rw [mix_Undo_l18, mix_Undo_s18, show ((i + 1 : Nat) : Int) - 1 = (i : Int) by omega, if_pos (by rw [gge_i]; simp), e2, e3, okI_d (by omega), bind_s, okI_d (by omega), bind_s,
      show (at' : Int) + ((i + 1 : Nat) : Int) = ((at' + i + 1 : Nat) : Int) by omega, show (at' : Int) + (i : Int) = ((at' + i : Nat) : Int) by omega,
      sel_get (by omega), bind_s, sel_get (by omega), bind_s, bind_s, if_pos (by simp; omega), if_neg (by simp; omega), gsub_i32, hv, sel_set (by omega), bind_s, gsub_n (by omega) (by omega)]
    have ih := unmix_loop bk at' h1 h6 hm hl hl2 i q (by omega) (by omega)
    rw [← ih]
    congr 1
    apply sel_congr
    intro k _
    rw [Bool.eq_iff_iff]; simp; omega
theorem undo_loop (h1 : 1 ≤ ch) (h6 : ch ≤ 6) (hm : l.length % ch = 0) (hl2 : l.length ≤ 4000) : ∀ (j at' q : Nat), at' % ch = 0 → at' ≤ l.length → l.length - at' ≤ j → j < q →
    mix_Undo_l12 (ch : Int) q (at' : Int) (sel (fun k => decide (k < at')) l (mixS ch l)) = some (l, 0)
  | j, at', q + 1, ha, hle, hj, hq => by
    have hlen := mixS_len ch l
    have hl : lenI (sel (fun k => decide (k < at')) l (mixS ch l)) = (l.length : Int) := by rw [lenI, sel_len]
    rw [mix_Undo_l12, mix_Undo_s12, hl]
    by_cases h : at' < l.length
    · have hb : at' + ch ≤ l.length := by
        have d1 := Nat.div_add_mod at' ch
        have d2 := Nat.div_add_mod l.length ch
        rw [ha, Nat.add_zero] at d1
        rw [hm, Nat.add_zero] at d2
        have hlt : at' / ch < l.length / ch := by
          rcases Nat.lt_or_ge (at' / ch) (l.length / ch) with h' | h'
          · exact h'
          · have := Nat.mul_le_mul_left ch h'; omega
        have := Nat.mul_le_mul_left ch (show at' / ch + 1 ≤ l.length / ch from hlt)
        rw [Nat.mul_add] at this; omega
      obtain ⟨j, rfl⟩ : ∃ k, j = k + 1 := ⟨j - 1, by omega⟩
      have e1 : gsub (gadd (at' : Int) (ch : Int) - (at' : Int)) 1 = ((ch - 1 : Nat) : Int) := by rw [gadd_n (by omega) (by omega), gsub_n (by omega) (by omega)]; omega
      have e2 : gadd (at' : Int) (ch : Int) - (at' : Int) = (ch : Int) := by rw [gadd_n (by omega) (by omega)]; omega
      have e4 : gadd (at' : Int) (ch : Int) = ((at' + ch : Nat) : Int) := by rw [gadd_n (by omega) (by omega)]; omega
      have hbm : (at' + (ch - 1)) % ch = ch - 1 := by rw [Nat.add_mod, ha, Nat.zero_add, Nat.mod_mod, Nat.mod_eq_of_lt (by omega)]
      have hi := unmix_loop ch l (mix_Undo_l12 (ch : Int) q) at' h1 h6 ha hb hl2 (ch - 1) FUEL (by omega) (by have := FUEL_gt; omega)
      have hrest := undo_loop h1 h6 hm hl2 j (at' + ch) q (by rw [Nat.add_mod_right, ha]) hb (by omega) (by omega)
      have hstart : mix_Undo_p17 (mix_Undo_l12 (ch : Int) q) (ch : Int) (at' : Int) (sel (fun k => decide (k < at' ∨ (at' + (ch - 1) ≤ k ∧ k < at' + ch))) l (mixS ch l)) = some (l, 0) := by
        have e6 : gsub ((ch - 1 : Nat) : Int) 1 = ((ch - 1 : Nat) : Int) - 1 := gsub_n (by omega) (by omega)
        rw [mix_Undo_p17, mix_Undo_s17, mix_Undo_p18, e1, e6]
        exact Eq.trans hi hrest
      rw [if_pos (by rw [glt_i]; simp; omega), show vwI (l.length : Int) (at' : Int) (gadd (at' : Int) (ch : Int)) = some () by rw [e4, vwI, okI_d]; omega, bind_s, e1, e2]
      by_cases hc : 1 < ch
      · have e5 : gsub ((ch - 1 : Nat) : Int) 1 = ((ch - 2 : Nat) : Int) := by rw [gsub_n (by omega) (by omega)]; omega
        have hv : ((mixS ch l).getD (at' + (ch - 1)) 0 + gquo ((mixS ch l).getD (at' + (ch - 2)) 0) (2 : Int32)) = l.getD (at' + (ch - 1)) 0 := by
          have hb2 : (at' + (ch - 2)) % ch = ch - 2 := by rw [Nat.add_mod, ha, Nat.zero_add, Nat.mod_mod, Nat.mod_eq_of_lt (by omega)]
          rw [mixS_get ch l (by omega), mixS_get ch l (by omega), mixAt, mixAt, hbm, hb2, if_neg (by omega), if_neg (by omega), if_pos (by omega), show at' + (ch - 2) + 1 = at' + (ch - 1) by omega, show at' + (ch - 1) - 1 = at' + (ch - 2) by omega]
          exact Int32.sub_add_cancel _ _
        rw [if_pos (by rw [ggt_i]; simp; omega), okI_d (by omega), bind_s, e5, okI_d (by omega), bind_s, show (at' : Int) + ((ch - 1 : Nat) : Int) = ((at' + (ch - 1) : Nat) : Int) by omega, show (at' : Int) + ((ch - 2 : Nat) : Int) = ((at' + (ch - 2) : Nat) : Int) by omega,
          sel_get (by omega), bind_s, sel_get (by omega), bind_s, bind_s, if_neg (by simp), if_neg (by simp), gadd_i32, hv, sel_set (by omega), bind_s]
        rw [← hstart]
        congr 1
        apply sel_congr
        intro k _
        rw [Bool.eq_iff_iff]; simp; omega
      · have hc1 : ch = 1 := by omega
        rw [if_neg (by rw [ggt_i]; simp; omega), ← hstart]
        congr 1
        subst hc1
        apply List.ext_getElem (by simp [sel_len])
        intro i i1 i2
        rw [sel_len] at i1
        have hM : (mixS 1 l).getD i 0 = l.getD i 0 := by rw [mixS_get 1 l i1, mixAt]; simp [Nat.mod_one]
        rw [sel_getElem, sel_getElem, hM]
        simp
    · rw [if_neg (by rw [glt_i]; simp; omega), sel_all (fun k hk => by simp; omega)]
      rfl
theorem undo_eq (h1 : 1 ≤ ch) (h6 : ch ≤ 6) (hm : l.length % ch = 0) (hl2 : l.length ≤ 4000) : mix_Undo (ch : Int) (mixS ch l) = some (l, 0) := by
  have hlen := mixS_len ch l
  have h := undo_loop ch l h1 h6 hm hl2 l.length 0 FUEL (by simp) (by omega) (by omega) (by have := FUEL_gt; omega)
  rw [mix_Undo, mix_Undo_s0, mixCheck ch (mixS ch l) h1 h6 (by rw [hlen]; exact hm) (by rw [hlen]; exact hl2), bind_s, if_neg (by rw [gne_i]; simp), slices_Clone_int32_int32, appI_n (by simp [hlen]; omega), bind_s, bind_s, List.nil_append, mix_Undo_p12]
  rw [sel_none hlen (fun k _ => by simp)] at h
  exact h
end Go.Pl

set_option linter.unusedVariables false
set_option linter.unusedSimpArgs false
namespace Go.Pl
open Go Go.Lv
/-! ### filters: what they do is the same in all walks; only that it is done is shown here -/
def OkF (s : Int) (t p : List Int32) : Prop := (s = 9 ∨ s = 10) ∧ t.length = 16 ∧ p.length = 16
theorem tapsCheck {s : Int} {t p : List Int32} (h : OkF s t p) : taps_Check s t p = some 0 := by
  obtain ⟨rfl | rfl, _, _⟩ := h <;> rfl
theorem guessLoop {s : Int} {t p : List Int32} (h : OkF s t p) : ∀ (j i q : Nat) (sum : Int32), i + j = 16 → j < q → ∃ g, taps_Guess_l4 t s p q sum (i : Int) = some (g, 0)
  | 0, i, q + 1, sum, hi, _ => by
    obtain rfl : i = 16 := by omega
    have hs := h.1
    rw [taps_Guess_l4, taps_Guess_s4, if_neg (by rw [glt_i]; simp), taps_Guess_p6, taps_Guess_s6, okI_of (by rw [gge_i]; simp; omega), bind_s]
    exact ⟨_, rfl⟩
  | j + 1, i, q + 1, sum, hi, hq => by
    obtain ⟨hs, ht, hp⟩ := h
    rw [taps_Guess_l4, taps_Guess_s4, if_pos (by rw [glt_i]; simp; omega), getI_n (by omega), bind_s, getI_n (by omega), bind_s, bind_s, gadd_n (b := 1) (by omega) (by omega)]
    exact guessLoop ⟨hs, ht, hp⟩ j (i + 1) q _ (by omega) (by omega)
theorem guess_some {s : Int} {t p : List Int32} (h : OkF s t p) : ∃ g, taps_Guess s t p = some (g, 0) := by
  have hs := h.1
  rw [taps_Guess, taps_Guess_s0, tapsCheck h, bind_s, if_neg (by rw [gne_i]; simp), gsub_n (by omega) (by omega), okI_of (by rw [gge_i]; simp; omega), bind_s, taps_Guess_p4]
  exact guessLoop h 16 0 FUEL _ (by omega) (by have := FUEL_gt; omega)
theorem step_some (i : Int) : ∃ x, taps_step i = some x := by
  rw [taps_step]; split
  · exact ⟨_, rfl⟩
  · split <;> exact ⟨_, rfl⟩
theorem learnLoop {s : Int} {p : List Int32} (w : Int32) (hp : p.length = 16) : ∀ (j i q : Nat) (t : List Int32), i + j = 16 → j < q → t.length = 16 → ∃ t', taps_Learn_l4 w p s q (i : Int) t = some (s, t', p, 0) ∧ t'.length = 16
  | 0, i, q + 1, t, hi, _, ht => by
    obtain rfl : i = 16 := by omega
    rw [taps_Learn_l4, taps_Learn_s4, if_neg (by rw [glt_i]; simp)]
    exact ⟨t, rfl, ht⟩
  | j + 1, i, q + 1, t, hi, hq, ht => by
    obtain ⟨x, hx⟩ := step_some (i : Int)
    rw [taps_Learn_l4, taps_Learn_s4, if_pos (by rw [glt_i]; simp; omega), getI_n (by omega), bind_s, gadd_n (b := 1) (by omega) (by omega), getI_n (by omega), hx]
    simp only [bind_s]
    rw [setI_n _ (by omega), setI_n _ (by omega), bind_s, bind_s]
    split
    · exact learnLoop w hp j (i + 1) q t (by omega) (by omega) ht
    · split
      · exact learnLoop w hp j (i + 1) q _ (by omega) (by omega) (by simpa using ht)
      · exact learnLoop w hp j (i + 1) q _ (by omega) (by omega) (by simpa using ht)
theorem learn_some {s : Int} {t p : List Int32} (h : OkF s t p) (w : Int32) : ∃ t', taps_Learn s t p w = some (s, t', p, 0) ∧ t'.length = 16 := by
  rw [taps_Learn, taps_Learn_s0, tapsCheck h, bind_s, if_neg (by rw [gne_i]; simp)]
  split
  · exact ⟨t, rfl, h.2.1⟩
  · exact learnLoop w h.2.2 16 0 FUEL t (by omega) (by have := FUEL_gt; omega) h.2.1
theorem push_some {s : Int} {t p : List Int32} (h : OkF s t p) (x : Int32) : ∃ p', taps_Push s t p x = some (s, t, p', 0) ∧ p'.length = 16 := by
  obtain ⟨hs, ht, hp⟩ := h
  have hl : (copyAt p (1 : Int) ((16 : Int) - 1) (subL p (0 : Int) ((16 : Int) - 0))).length = 16 := by
    simp [copyAt, subL, hp]
  rw [taps_Push, taps_Push_s0, tapsCheck ⟨hs, ht, hp⟩, bind_s, if_neg (by rw [gne_i]; simp), show vwI (16 : Int) 1 16 = some () from rfl, bind_s, show vwI (16 : Int) 0 16 = some () from rfl, bind_s, taps_Push_p2, taps_Push_s2, show (0 : Int) = ((0 : Nat) : Int) from rfl]
  rw [getI_n (by rw [show ((0 : Nat) : Int) = (0 : Int) from rfl, hl]; omega), bind_s, setI_n _ (by rw [show ((0 : Nat) : Int) = (0 : Int) from rfl, hl]; omega), bind_s]
  exact ⟨_, rfl, by rw [List.length_set]; exact hl⟩
theorem behind_some {s : Int} {t p : List Int32} (h : OkF s t p) (x y : Int32) : ∃ t' p', lms_behind s t p x y = some (s, t', p') ∧ OkF s t' p' := by
  obtain ⟨t', h1, h2⟩ := learn_some h y
  obtain ⟨p', h3, h4⟩ := push_some (s := s) (t := t') (p := p) ⟨h.1, h2, h.2.2⟩ x
  rw [lms_behind, h1, bind_s]
  simp only
  rw [h3, bind_s]
  exact ⟨t', p', rfl, h.1, h2, h4⟩
def gF (s : Int) (t p : List Int32) : Int32 := ((taps_Guess s t p).getD (0, 0)).1
def bT (s : Int) (t p : List Int32) (x y : Int32) : List Int32 := ((lms_behind s t p x y).getD (0, [], [])).2.1
def bP (s : Int) (t p : List Int32) (x y : Int32) : List Int32 := ((lms_behind s t p x y).getD (0, [], [])).2.2
theorem guess_eq {s : Int} {t p : List Int32} (h : OkF s t p) : taps_Guess s t p = some (gF s t p, 0) := by
  obtain ⟨g, hg⟩ := guess_some h
  rw [gF, hg]; rfl
theorem behind_eq {s : Int} {t p : List Int32} (h : OkF s t p) (x y : Int32) : lms_behind s t p x y = some (s, bT s t p x y, bP s t p x y) ∧ OkF s (bT s t p x y) (bP s t p x y) := by
  obtain ⟨t', p', h1, h2⟩ := behind_some h x y
  rw [bT, bP, h1]; exact ⟨rfl, h2⟩
theorem lmsFwd {s : Int} {t p : List Int32} (h : OkF s t p) (x : Int32) : lms_Forward s t p x = some (x - gF s t p, s, bT s t p x (x - gF s t p), bP s t p x (x - gF s t p), 0) := by
  rw [lms_Forward, guess_eq h, bind_s]
  simp only
  rw [if_neg (by rw [gne_i]; simp), gsub_i32, (behind_eq h _ _).1]; rfl
theorem lmsBack {s : Int} {t p : List Int32} (h : OkF s t p) (y : Int32) : lms_Back s t p y = some (y + gF s t p, s, bT s t p (y + gF s t p) y, bP s t p (y + gF s t p) y, 0) := by
  rw [lms_Back, guess_eq h, bind_s]
  simp only
  rw [if_neg (by rw [gne_i]; simp), gadd_i32, (behind_eq h _ _).1]; rfl
/-! ### one channel -/
def sB (bits : Int) : Int := if bits = 16 then 9 else 10
def shB (bits : Int) : Int := if bits = 8 then 4 else 5
def BitsOk (bits : Int) : Prop := bits = 8 ∨ bits = 16 ∨ bits = 24
def gs (sh : Int) (last : Int32) : Int32 := gconv (ishr (gsub (gshl (gconv last : Int) sh.toNat) (gconv last)) sh.toNat)
theorem sB_ok (bits : Int) : sB bits = 9 ∨ sB bits = 10 := by unfold sB; split <;> simp
theorem shB_pos (bits : Int) : 0 ≤ shB bits := by unfold shB; split <;> omega
theorem newT {bits : Int} (h : BitsOk bits) (t : List Int32) : taps_New bits t = some (sB bits, t, List.replicate 16 0, 0) := by
  obtain rfl | rfl | rfl := h <;> rfl
theorem shiftB {bits : Int} (h : BitsOk bits) : first_Shift bits = some (shB bits, 0) := by
  obtain rfl | rfl | rfl := h <;> rfl
theorem guessG {sh : Int} (h : 0 ≤ sh) (last : Int32) : first_guess sh last = some (gs sh last) := by
  rw [first_guess, okI_of (by rw [gge_i]; simpa using h), bind_s, bind_s]; rfl
theorem guessF {bits : Int} (h : BitsOk bits) (last : Int32) : first_Guess bits last = some (gs (shB bits) last, 0) := by
  rw [first_Guess, shiftB h, bind_s]
  simp only
  rw [if_neg (by rw [gne_i]; simp), guessG (shB_pos bits), bind_s]
theorem chainCheck {bits : Int} (h : BitsOk bits) (last : Int32) (t p : List Int32) : chain_Check bits last (sB bits) t p = some 0 := by
  rw [chain_Check, newT h, bind_s]
  simp only
  rw [if_neg (by rw [gne_i, gne_i]; simp)]
/-- What a channel gives, and its filter and last value behind. -/
def fwd (s sh : Int) : List Int32 → List Int32 → Int32 → List Int32 → List Int32 × List Int32 × List Int32 × Int32
  | t, p, last, [] => ([], t, p, last)
  | t, p, last, x :: l => ((x - gs sh last - gF s t p) :: (fwd s sh (bT s t p (x - gs sh last) (x - gs sh last - gF s t p)) (bP s t p (x - gs sh last) (x - gs sh last - gF s t p)) x l).1,
      (fwd s sh (bT s t p (x - gs sh last) (x - gs sh last - gF s t p)) (bP s t p (x - gs sh last) (x - gs sh last - gF s t p)) x l).2)
theorem fwd_len (s sh : Int) : ∀ (l t p : List Int32) (last : Int32), (fwd s sh t p last l).1.length = l.length
  | [], _, _, _ => rfl
  | x :: l, t, p, last => by rw [fwd]; simp [fwd_len s sh l]
theorem chainFwd {bits : Int} (h : BitsOk bits) {t p : List Int32} (hF : OkF (sB bits) t p) (last x : Int32) :
    chain_Forward bits last (sB bits) t p x = some (x - gs (shB bits) last - gF (sB bits) t p, bits, x, sB bits, bT (sB bits) t p (x - gs (shB bits) last) (x - gs (shB bits) last - gF (sB bits) t p), bP (sB bits) t p (x - gs (shB bits) last) (x - gs (shB bits) last - gF (sB bits) t p), 0) := by
  rw [chain_Forward, chainCheck h, bind_s, if_neg (by rw [gne_i]; simp), guessF h, bind_s]
  simp only
  rw [gsub_i32, lmsFwd hF]; rfl
theorem chainBack {bits : Int} (h : BitsOk bits) {t p : List Int32} (hF : OkF (sB bits) t p) (last x : Int32) :
    chain_Back bits last (sB bits) t p (x - gs (shB bits) last - gF (sB bits) t p) = some (x, bits, x, sB bits, bT (sB bits) t p (x - gs (shB bits) last) (x - gs (shB bits) last - gF (sB bits) t p), bP (sB bits) t p (x - gs (shB bits) last) (x - gs (shB bits) last - gF (sB bits) t p), 0) := by
  rw [chain_Back, chainCheck h, bind_s, if_neg (by rw [gne_i]; simp), guessF h, bind_s]
  simp only
  rw [lmsBack hF, Int32.sub_add_cancel, bind_s]
  simp only
  rw [gadd_i32, Int32.sub_add_cancel]
theorem allLoop {bits : Int} (h : BitsOk bits) (l : List Int32) (hl : l.length ≤ 4000) : ∀ (j i q : Nat) (t p : List Int32) (last : Int32) (acc : List Int32), i + j = l.length → j < q → OkF (sB bits) t p → acc.length = i →
    chain_All_l4 l q (i : Int) bits last (sB bits) t p acc = some (acc ++ (fwd (sB bits) (shB bits) t p last (l.drop i)).1, bits, (fwd (sB bits) (shB bits) t p last (l.drop i)).2.2.2, sB bits, (fwd (sB bits) (shB bits) t p last (l.drop i)).2.1, (fwd (sB bits) (shB bits) t p last (l.drop i)).2.2.1, 0)
  | 0, i, q + 1, t, p, last, acc, hi, _, _, _ => by
    rw [chain_All_l4, chain_All_s4, if_neg (by rw [glt_i, lenI]; simp; omega), show i = l.length by omega, List.drop_length, fwd, chain_All_p6, chain_All_s6]; simp
  | j + 1, i, q + 1, t, p, last, acc, hi, hq, hF, ha => by
    have hlt : i < l.length := by omega
    rw [chain_All_l4, chain_All_s4, if_pos (by rw [glt_i, lenI]; simp; omega), getI_n hlt, bind_s, chainFwd h hF, bind_s]
    simp only
    rw [appI_n (by simp; omega), bind_s, gadd_n (by omega) (by omega), show ((i : Int) + 1) = ((i + 1 : Nat) : Int) by omega]
    have ih := allLoop h l hl j (i + 1) q _ _ l[i] (acc ++ [l[i] - gs (shB bits) last - gF (sB bits) t p]) (by omega) (by omega) (behind_eq hF (l[i] - gs (shB bits) last) (l[i] - gs (shB bits) last - gF (sB bits) t p)).2 (by simp [ha])
    rw [ih, drop_cons hlt, fwd]; simp
theorem undoLoop {bits : Int} (h : BitsOk bits) (l : List Int32) (hl : l.length ≤ 4000) : ∀ (m : List Int32) (i q : Nat) (t p : List Int32) (last : Int32) (acc : List Int32), i + m.length = l.length → m.length < q → OkF (sB bits) t p → acc.length = i → l.drop i = (fwd (sB bits) (shB bits) t p last m).1 →
    chain_Undo_l4 l q (i : Int) bits last (sB bits) t p acc = some (acc ++ m, bits, (fwd (sB bits) (shB bits) t p last m).2.2.2, sB bits, (fwd (sB bits) (shB bits) t p last m).2.1, (fwd (sB bits) (shB bits) t p last m).2.2.1, 0)
  | [], i, q + 1, t, p, last, acc, hi, _, _, _, _ => by
    simp only [List.length_nil, Nat.add_zero] at hi
    rw [chain_Undo_l4, chain_Undo_s4, if_neg (by rw [glt_i, lenI]; simp; omega), fwd, chain_Undo_p6, chain_Undo_s6]; simp
  | x :: m, i, q + 1, t, p, last, acc, hi, hq, hF, ha, hd => by
    simp only [List.length_cons] at hi hq
    have hlt : i < l.length := by omega
    rw [drop_cons hlt, fwd] at hd
    obtain ⟨hd1, hd2⟩ := List.cons.inj hd
    rw [chain_Undo_l4, chain_Undo_s4, if_pos (by rw [glt_i, lenI]; simp; omega), getI_n hlt, bind_s, hd1, chainBack h hF, bind_s]
    simp only
    rw [appI_n (by simp; omega), bind_s, gadd_n (by omega) (by omega), show ((i : Int) + 1) = ((i + 1 : Nat) : Int) by omega]
    have ih := undoLoop h l hl m (i + 1) q _ _ x (acc ++ [x]) (by omega) (by omega) (behind_eq hF (x - gs (shB bits) last) (x - gs (shB bits) last - gF (sB bits) t p)).2 (by simp [ha]) hd2
    rw [ih, fwd]; simp
/-- The differences alone. -/
def dif (sh : Int) : Int32 → List Int32 → List Int32
  | _, [] => []
  | last, x :: l => (x - gs sh last) :: dif sh x l
theorem dif_len (sh : Int) : ∀ (l : List Int32) (last : Int32), (dif sh last l).length = l.length
  | [], _ => rfl
  | x :: l, last => by simp [dif, dif_len sh l]
theorem difLoop {sh : Int} (h : 0 ≤ sh) (l : List Int32) (hl : l.length ≤ 4000) : ∀ (j i q : Nat) (last : Int32) (acc : List Int32), i + j = l.length → j < q → acc.length = i → first_Forward_l4 sh l q last (i : Int) acc = some (acc ++ dif sh last (l.drop i), 0)
  | 0, i, q + 1, last, acc, hi, _, _ => by
    rw [first_Forward_l4, first_Forward_s4, if_neg (by rw [glt_i, lenI]; simp; omega), show i = l.length by omega, List.drop_length, dif]; simp [first_Forward_p6, first_Forward_s6]
  | j + 1, i, q + 1, last, acc, hi, hq, ha => by
    have hlt : i < l.length := by omega
    rw [first_Forward_l4, first_Forward_s4, if_pos (by rw [glt_i, lenI]; simp; omega), getI_n hlt, bind_s, guessG h, bind_s, appI_n (by simp; omega), bind_s, gadd_n (by omega) (by omega), gsub_i32, show ((i : Int) + 1) = ((i + 1 : Nat) : Int) by omega]
    have ih := difLoop h l hl j (i + 1) q l[i] (acc ++ [l[i] - gs sh last]) (by omega) (by omega) (by simp [ha])
    rw [ih, drop_cons hlt, dif]; simp
theorem dif_eq {bits : Int} (h : BitsOk bits) (l : List Int32) (hl : l.length ≤ 4000) : first_Forward bits l = some (dif (shB bits) 0 l, 0) := by
  have := difLoop (shB_pos bits) l hl l.length 0 FUEL 0 [] (by omega) (by have := FUEL_gt; omega) rfl
  have hc : first_check bits l = some (shB bits, 0) := by
    rw [first_check, shiftB h, bind_s]
    simp only
    rw [if_neg (by rw [ggt_i, lenI]; simp; intro _; omega)]
  rw [first_Forward, first_Forward_s0, hc, bind_s]
  simp only
  rw [if_neg (by rw [gne_i]; simp), first_Forward_p4]
  simpa using this
/-- The filter alone, over differences. -/
theorem lmsLoop {s sh : Int} (f1 : Int) (f2 f3 : List Int32) (l : List Int32) (hl : l.length ≤ 4000) : ∀ (m : List Int32) (i q : Nat) (t p : List Int32) (last : Int32) (acc : List Int32), i + m.length = l.length → m.length < q → OkF s t p → acc.length = i → l.drop i = dif sh last m →
    lms_All_l11 l f1 f2 f3 q (i : Int) s t p acc = some (acc ++ (fwd s sh t p last m).1, s, (fwd s sh t p last m).2.1, (fwd s sh t p last m).2.2.1, 0)
  | [], i, q + 1, t, p, last, acc, hi, _, _, _, _ => by
    simp only [List.length_nil, Nat.add_zero] at hi
    rw [lms_All_l11, lms_All_s11, if_neg (by rw [glt_i, lenI]; simp; omega), fwd, lms_All_p19, lms_All_s19, lms_All_p20, lms_All_s20]; simp
  | x :: m, i, q + 1, t, p, last, acc, hi, hq, hF, ha, hd => by
    simp only [List.length_cons] at hi hq
    have hlt : i < l.length := by omega
    rw [drop_cons hlt, dif] at hd
    obtain ⟨hd1, hd2⟩ := List.cons.inj hd
    rw [lms_All_l11, lms_All_s11, if_pos (by rw [glt_i, lenI]; simp; omega), getI_n hlt, bind_s, hd1, lmsFwd hF, bind_s]
    simp only
    rw [lms_All_p16, lms_All_s16, appI_n (by simp; omega), bind_s, lms_All_p17, lms_All_s17, gadd_n (by omega) (by omega), show ((i : Int) + 1) = ((i + 1 : Nat) : Int) by omega]
    have ih := lmsLoop f1 f2 f3 l hl m (i + 1) q _ _ x (acc ++ [x - gs sh last - gF s t p]) (by omega) (by omega) (behind_eq hF (x - gs sh last) (x - gs sh last - gF s t p)).2 (by simp [ha]) hd2
    rw [ih, fwd]; simp
end Go.Pl

set_option linter.unusedVariables false
set_option linter.unusedSimpArgs false
namespace Go.Pl
open Go Go.Lv
/-! ### samples and their bytes -/
def by' (b : List UInt8) (k : Nat) : Nat := (b.getD k 0).toNat
theorem by_lt (b : List UInt8) (k : Nat) : by' b k < 256 := (b.getD k 0).toNat_lt
/-- The sample at a place, of n bytes. -/
def sx (n : Nat) (b : List UInt8) (a : Nat) : Int :=
  if n = 1 then (by' b a : Int) - 128 else
  if n = 2 then (if by' b a + 256 * by' b (a + 1) < 32768 then (by' b a + 256 * by' b (a + 1) : Nat) else ((by' b a + 256 * by' b (a + 1) : Nat) : Int) - 65536) else
  (if by' b a + 256 * by' b (a + 1) + 65536 * by' b (a + 2) < 8388608 then (by' b a + 256 * by' b (a + 1) + 65536 * by' b (a + 2) : Nat) else ((by' b a + 256 * by' b (a + 1) + 65536 * by' b (a + 2) : Nat) : Int) - 16777216)
def nB (bits : Int) : Nat := if bits = 8 then 1 else if bits = 16 then 2 else 3
def sxs (n m : Nat) (b : List UInt8) : List Int32 := (List.range m).map fun x => Int32.ofInt (sx n b (x * n))
theorem sxs_len (n m : Nat) (b : List UInt8) : (sxs n m b).length = m := by simp [sxs]
theorem sxs_snoc (n m : Nat) (b : List UInt8) : sxs n (m + 1) b = sxs n m b ++ [Int32.ofInt (sx n b (m * n))] := by simp [sxs, List.range_succ]
theorem toInt_of {n : Int} (h : -2147483648 ≤ n) (h' : n < 2147483648) : (Int32.ofInt n).toInt = n := by
  rw [Int32.toInt_ofInt, Int.bmod_def, show ((Int32.size : Nat) : Int) = 4294967296 from rfl]; split <;> omega
theorem getI_by {b : List UInt8} {k : Nat} (h : k < b.length) : getI b (k : Int) = some (b.getD k 0) := by
  rw [getI_n h]; simp [List.getD_eq_getElem?_getD, h]
theorem gconv_8_32 (c : UInt8) : (gconv c : Int32) = Int32.ofInt (c.toNat : Int) := rfl
theorem shl32 {v : Nat} (k : Nat) (hk : k ≤ 32) (h : v < 2147483648) : gshl (Int32.ofInt (v : Int)) k = Int32.ofInt ((v * 2 ^ k : Nat) : Int) := by
  have e : gshl (Int32.ofInt (v : Int)) k = Int32.ofInt ((Int32.ofInt (v : Int)).toInt * 2 ^ min k 32) := rfl
  rw [e, toInt_of (by omega) (by omega), Nat.min_eq_left hk]; simp
theorem or32 {v w i : Nat} (hv : v < 2 ^ i) (hw : w * 2 ^ i < 2147483648) (hi : i ≤ 31) : gor (Int32.ofInt (v : Int)) (Int32.ofInt ((w * 2 ^ i : Nat) : Int)) = Int32.ofInt ((v + w * 2 ^ i : Nat) : Int) := by
  have hv2 : v < 2147483648 := Nat.lt_of_lt_of_le hv (show 2 ^ i ≤ 2 ^ 31 from Nat.pow_le_pow_right (by omega) hi)
  have e : gor (Int32.ofInt (v : Int)) (Int32.ofInt ((w * 2 ^ i : Nat) : Int)) = Int32.ofInt ((BitVec.ofInt 32 (Int32.ofInt (v : Int)).toInt ||| BitVec.ofInt 32 (Int32.ofInt ((w * 2 ^ i : Nat) : Int)).toInt).toNat : Int) := rfl
  rw [e, toInt_of (by omega) (by omega), toInt_of (by omega) (by omega), BitVec.toNat_or, BitVec.toNat_ofInt, BitVec.toNat_ofInt]
  have a1 : ((v : Int) % ((2 ^ 32 : Nat) : Int)).toNat = v := by omega
  have a2 : (((w * 2 ^ i : Nat) : Int) % ((2 ^ 32 : Nat) : Int)).toNat = w * 2 ^ i := by omega
  rw [a1, a2, Nat.or_comm, Nat.mul_comm w, ← Nat.two_pow_add_eq_or_of_lt hv, Nat.add_comm]
theorem or_zero32 (w : Nat) (h : w < 2147483648) : gor (0 : Int32) (Int32.ofInt (w : Int)) = Int32.ofInt (w : Int) := by
  have := or32 (v := 0) (w := w) (i := 0) (by simp) (by simpa using h) (by omega)
  simpa using this
/-- The bits are carried on to the left, and back. -/
theorem carry {v k : Nat} (hk : k ≤ 31) (h : v * 2 ^ k < 4294967296) (hv : v < 2147483648) : gshr (gshl (Int32.ofInt (v : Int)) k) k = Int32.ofInt ((if v * 2 ^ k < 2147483648 then ((v * 2 ^ k : Nat) : Int) else ((v * 2 ^ k : Nat) : Int) - 4294967296).fdiv (2 ^ k)) := by
  rw [shl32 k (by omega) hv]
  have e : ∀ x : Int32, gshr x k = Int32.ofInt (x.toInt.fdiv (2 ^ min k 32)) := fun _ => rfl
  have hX : (Int32.ofInt ((v * 2 ^ k : Nat) : Int)).toInt = if v * 2 ^ k < 2147483648 then ((v * 2 ^ k : Nat) : Int) else ((v * 2 ^ k : Nat) : Int) - 4294967296 := by
    rw [Int32.toInt_ofInt, Int.bmod_def, show ((Int32.size : Nat) : Int) = 4294967296 from rfl]
    generalize v * 2 ^ k = X at *
    split <;> split <;> omega
  rw [e, Nat.min_eq_left (by omega), hX]
theorem sx2 (b : List UInt8) (a : Nat) : sx 2 b a = if by' b a + 256 * by' b (a + 1) < 32768 then ((by' b a + 256 * by' b (a + 1) : Nat) : Int) else ((by' b a + 256 * by' b (a + 1) : Nat) : Int) - 65536 := rfl
theorem sx3 (b : List UInt8) (a : Nat) : sx 3 b a = if by' b a + 256 * by' b (a + 1) + 65536 * by' b (a + 2) < 8388608 then ((by' b a + 256 * by' b (a + 1) + 65536 * by' b (a + 2) : Nat) : Int) else ((by' b a + 256 * by' b (a + 1) + 65536 * by' b (a + 2) : Nat) : Int) - 16777216 := rfl
variable (b : List UInt8)
theorem samp8 (bk : Int → List Int32 → Option (List Int32 × Int)) (a : Nat) (acc : List Int32) (h : a + 1 ≤ b.length) (hl : b.length ≤ 100000) (ha : acc.length ≤ 100000) (j25 : Int → List Int32 → Int32 → Int → Option (List Int32 × Int)) (j30 : List Int32 → Option (List Int32 × Int)) :
    width_Samples_s16 (width_Samples_p28 bk 8 b) j25 j30 8 b (a : Int) acc = bk ((a + 1 : Nat) : Int) (acc ++ [Int32.ofInt (sx 1 b a)]) := by
  have hb := by_lt b a
  have e : gsub (gconv (b.getD a 0) : Int32) (128 : Int32) = Int32.ofInt (sx 1 b a) := by
    have e1 : gsub (gconv (b.getD a 0) : Int32) (128 : Int32) = Int32.ofInt ((Int32.ofInt ((b.getD a 0).toNat : Int)).toInt - (128 : Int32).toInt) := rfl
    rw [e1, toInt_of (by omega) (by have := (b.getD a 0).toNat_lt; omega)]; rfl
  have q8 : gquo (8 : Int) 8 = 1 := by decide
  rw [width_Samples_s16, if_pos (by rw [glt_i, lenI]; simp; omega), if_pos (by rw [geq_i]; rfl), getI_by (by omega), bind_s, e, appI_n (by simp; omega), bind_s, width_Samples_p28, width_Samples_s28, q8, gadd_n (by omega) (by omega)]; rfl
theorem samp16 (bk : Int → List Int32 → Option (List Int32 × Int)) (a : Nat) (acc : List Int32) (h : a + 2 ≤ b.length) (hl : b.length ≤ 100000) (ha : acc.length ≤ 100000) (j28 : Int → List Int32 → Option (List Int32 × Int)) (j30 : List Int32 → Option (List Int32 × Int)) :
    width_Samples_s16 j28 (width_Samples_p25 bk 16 b) j30 16 b (a : Int) acc = bk ((a + 2 : Nat) : Int) (acc ++ [Int32.ofInt (sx 2 b a)]) := by
  have h0 := by_lt b a
  have h1 := by_lt b (a + 1)
  have q : gquo (16 : Int) 8 = 2 := by decide
  have hF : FUEL = (FUEL - 3) + 1 + 1 + 1 := by have := FUEL_gt; omega
  have z0 : (GI.toZ (gmul (8 : Int) 0)).toNat = 0 := by decide
  have z1 : (GI.toZ (gmul (8 : Int) 1)).toNat = 8 := by decide
  have z16 : (GI.toZ (gsub (32 : Int) 16)).toNat = 16 := by decide
  have s0 : gshl (Int32.ofInt (by' b a : Int)) 0 = Int32.ofInt (by' b a : Int) := by have := shl32 (v := by' b a) 0 (by omega) (by omega); simpa using this
  have s1 : gshl (Int32.ofInt (by' b (a + 1) : Int)) 8 = Int32.ofInt ((by' b (a + 1) * 2 ^ 8 : Nat) : Int) := shl32 8 (by omega) (by omega)
  have o1 := or32 (v := by' b a) (w := by' b (a + 1)) (i := 8) (by simpa using h0) (by omega) (by omega)
  have c := carry (v := by' b a + by' b (a + 1) * 2 ^ 8) (k := 16) (by omega) (by omega) (by omega)
  rw [width_Samples_s16, if_pos (by rw [glt_i, lenI]; simp; omega), if_neg (by rw [geq_i]; decide), width_Samples_p25, hF, width_Samples_l25, width_Samples_s25, q, if_pos (by decide), show gadd (a : Int) 0 = ((a : Nat) : Int) by rw [gadd_n (by omega) (by omega)]; omega, getI_by (by omega), bind_s, okI_of (by decide), bind_s, z0,
    gconv_8_32, show ((b.getD a 0).toNat : Int) = (by' b a : Int) from rfl, s0, or_zero32 _ (by omega), show gadd (0 : Int) 1 = 1 by decide,
    width_Samples_l25, width_Samples_s25, q, if_pos (by decide), show gadd (a : Int) 1 = ((a + 1 : Nat) : Int) by rw [gadd_n (by omega) (by omega)]; omega, getI_by (by omega), bind_s, okI_of (by decide), bind_s, z1,
    gconv_8_32, show ((b.getD (a + 1) 0).toNat : Int) = (by' b (a + 1) : Int) from rfl, s1, o1, show gadd (1 : Int) 1 = 2 by decide,
    width_Samples_l25, width_Samples_s25, q, if_neg (by decide), width_Samples_p27, width_Samples_s27, okI_of (by decide), bind_s, bind_s, z16, c, appI_n (by simp; omega), bind_s, width_Samples_p28, width_Samples_s28, q, gadd_n (by omega) (by omega)]
  have e : ((if (by' b a + by' b (a + 1) * 2 ^ 8) * 2 ^ 16 < 2147483648 then (((by' b a + by' b (a + 1) * 2 ^ 8) * 2 ^ 16 : Nat) : Int) else (((by' b a + by' b (a + 1) * 2 ^ 8) * 2 ^ 16 : Nat) : Int) - 4294967296).fdiv (2 ^ 16)) = sx 2 b a := by
    rw [Int.fdiv_eq_ediv_of_nonneg _ (by omega), sx2]
    split <;> split <;> omega
  rw [e]; rfl
theorem samp24 (bk : Int → List Int32 → Option (List Int32 × Int)) (a : Nat) (acc : List Int32) (h : a + 3 ≤ b.length) (hl : b.length ≤ 100000) (ha : acc.length ≤ 100000) (j28 : Int → List Int32 → Option (List Int32 × Int)) (j30 : List Int32 → Option (List Int32 × Int)) :
    width_Samples_s16 j28 (width_Samples_p25 bk 24 b) j30 24 b (a : Int) acc = bk ((a + 3 : Nat) : Int) (acc ++ [Int32.ofInt (sx 3 b a)]) := by
  have h0 := by_lt b a
  have h1 := by_lt b (a + 1)
  have h2 := by_lt b (a + 2)
  have q : gquo (24 : Int) 8 = 3 := by decide
  have hF : FUEL = (FUEL - 4) + 1 + 1 + 1 + 1 := by have := FUEL_gt; omega
  have z0 : (GI.toZ (gmul (8 : Int) 0)).toNat = 0 := by decide
  have z1 : (GI.toZ (gmul (8 : Int) 1)).toNat = 8 := by decide
  have z2 : (GI.toZ (gmul (8 : Int) 2)).toNat = 16 := by decide
  have z8 : (GI.toZ (gsub (32 : Int) 24)).toNat = 8 := by decide
  have s0 : gshl (Int32.ofInt (by' b a : Int)) 0 = Int32.ofInt (by' b a : Int) := by have := shl32 (v := by' b a) 0 (by omega) (by omega); simpa using this
  have s1 : gshl (Int32.ofInt (by' b (a + 1) : Int)) 8 = Int32.ofInt ((by' b (a + 1) * 2 ^ 8 : Nat) : Int) := shl32 8 (by omega) (by omega)
  have s2 : gshl (Int32.ofInt (by' b (a + 2) : Int)) 16 = Int32.ofInt ((by' b (a + 2) * 2 ^ 16 : Nat) : Int) := shl32 16 (by omega) (by omega)
  have o1 := or32 (v := by' b a) (w := by' b (a + 1)) (i := 8) (by simpa using h0) (by omega) (by omega)
  have o2 := or32 (v := by' b a + by' b (a + 1) * 2 ^ 8) (w := by' b (a + 2)) (i := 16) (by omega) (by omega) (by omega)
  have c := carry (v := by' b a + by' b (a + 1) * 2 ^ 8 + by' b (a + 2) * 2 ^ 16) (k := 8) (by omega) (by omega) (by omega)
  rw [width_Samples_s16, if_pos (by rw [glt_i, lenI]; simp; omega), if_neg (by rw [geq_i]; decide), width_Samples_p25, hF, width_Samples_l25, width_Samples_s25, q, if_pos (by decide), show gadd (a : Int) 0 = ((a : Nat) : Int) by rw [gadd_n (by omega) (by omega)]; omega, getI_by (by omega), bind_s, okI_of (by decide), bind_s, z0,
    gconv_8_32, show ((b.getD a 0).toNat : Int) = (by' b a : Int) from rfl, s0, or_zero32 _ (by omega), show gadd (0 : Int) 1 = 1 by decide,
    width_Samples_l25, width_Samples_s25, q, if_pos (by decide), show gadd (a : Int) 1 = ((a + 1 : Nat) : Int) by rw [gadd_n (by omega) (by omega)]; omega, getI_by (by omega), bind_s, okI_of (by decide), bind_s, z1,
    gconv_8_32, show ((b.getD (a + 1) 0).toNat : Int) = (by' b (a + 1) : Int) from rfl, s1, o1, show gadd (1 : Int) 1 = 2 by decide,
    width_Samples_l25, width_Samples_s25, q, if_pos (by decide), show gadd (a : Int) 2 = ((a + 2 : Nat) : Int) by rw [gadd_n (by omega) (by omega)]; omega, getI_by (by omega), bind_s, okI_of (by decide), bind_s, z2,
    gconv_8_32, show ((b.getD (a + 2) 0).toNat : Int) = (by' b (a + 2) : Int) from rfl, s2, o2, show gadd (2 : Int) 1 = 3 by decide,
    width_Samples_l25, width_Samples_s25, q, if_neg (by decide), width_Samples_p27, width_Samples_s27, okI_of (by decide), bind_s, bind_s, z8, c, appI_n (by simp; omega), bind_s, width_Samples_p28, width_Samples_s28, q, gadd_n (by omega) (by omega)]
  have e : ((if (by' b a + by' b (a + 1) * 2 ^ 8 + by' b (a + 2) * 2 ^ 16) * 2 ^ 8 < 2147483648 then (((by' b a + by' b (a + 1) * 2 ^ 8 + by' b (a + 2) * 2 ^ 16) * 2 ^ 8 : Nat) : Int) else (((by' b a + by' b (a + 1) * 2 ^ 8 + by' b (a + 2) * 2 ^ 16) * 2 ^ 8 : Nat) : Int) - 4294967296).fdiv (2 ^ 8)) = sx 3 b a := by
    rw [Int.fdiv_eq_ediv_of_nonneg _ (by omega), sx3]
    split <;> split <;> omega
  rw [e]; rfl
theorem samples_loop (bits : Int) (n m : Nat) (hn : 1 ≤ n) (hm : b.length = m * n) (hl : b.length ≤ 100000) (step : ∀ (q a : Nat) (acc : List Int32), a + n ≤ b.length → acc.length ≤ 100000 → width_Samples_l16 bits b (q + 1) (a : Int) acc = width_Samples_l16 bits b q ((a + n : Nat) : Int) (acc ++ [Int32.ofInt (sx n b a)])) :
    ∀ (j x q : Nat), x + j = m → j < q → width_Samples_l16 bits b q ((x * n : Nat) : Int) (sxs n x b) = some (sxs n m b, 0)
  | 0, x, q + 1, hx, _ => by
    obtain rfl : x = m := by omega
    rw [width_Samples_l16, width_Samples_s16, if_neg (by rw [glt_i, lenI]; simp; omega)]; rfl
  | j + 1, x, q + 1, hx, hq => by
    have h1 : (x + 1) * n ≤ m * n := Nat.mul_le_mul_right n (by omega)
    rw [Nat.add_mul, Nat.one_mul] at h1
    have h2 : m ≤ m * n := Nat.le_mul_of_pos_right m hn
    rw [step q (x * n) _ (by omega) (by rw [sxs_len]; omega), ← sxs_snoc, show x * n + n = (x + 1) * n by rw [Nat.add_mul, Nat.one_mul]]
    exact samples_loop bits n m hn hm hl step j (x + 1) q (by omega) (by omega)
def top (bits : Int) : Int := if bits = 8 then 128 else if bits = 16 then 32768 else 8388608
theorem rangeB {bits : Int} (h : BitsOk bits) : width_Range bits = some (Int32.ofInt (-(top bits)), Int32.ofInt (top bits - 1), 0) := by
  obtain rfl | rfl | rfl := h <;> rfl
theorem range_no {bits : Int} (h : ¬ BitsOk bits) : width_Range bits = some (0, 0, 2) := by
  have h8 : ¬ bits = 8 := fun e => h (.inl e)
  have h16 : ¬ bits = 16 := fun e => h (.inr (.inl e))
  have h24 : ¬ bits = 24 := fun e => h (.inr (.inr e))
  rw [width_Range, width_Range_s0, if_neg (by rw [geq_i]; simpa using h8), if_neg (by rw [geq_i]; simpa using h16), width_Range_p2, width_Range_s2, if_neg (by rw [geq_i]; simpa using h24)]
theorem nB_pos (bits : Int) : 1 ≤ nB bits := by unfold nB; split; · omega
                                                split <;> omega
theorem quoB {bits : Int} (h : BitsOk bits) : gquo bits 8 = (nB bits : Int) := by
  obtain rfl | rfl | rfl := h <;> rfl
theorem stepB {bits : Int} (h : BitsOk bits) (hl : b.length ≤ 100000) (q a : Nat) (acc : List Int32) (ha : a + nB bits ≤ b.length) (hc : acc.length ≤ 100000) :
    width_Samples_l16 bits b (q + 1) (a : Int) acc = width_Samples_l16 bits b q ((a + nB bits : Nat) : Int) (acc ++ [Int32.ofInt (sx (nB bits) b a)]) := by
  rw [width_Samples_l16]
  obtain rfl | rfl | rfl := h
  · exact samp8 b _ a acc ha hl hc _ _
  · exact samp16 b _ a acc ha hl hc _ _
  · exact samp24 b _ a acc ha hl hc _ _
theorem Samples_no {bits : Int} (h : ¬ BitsOk bits) : width_Samples bits b = some ([], 2) := by
  rw [width_Samples, width_Samples_s0, range_no h, bind_s]
  simp only
  rw [if_pos (by rw [gne_i]; decide)]
theorem Samples_eq {bits : Int} (h : BitsOk bits) (hl : b.length ≤ 600) : (∃ e : Int, e ≠ 0 ∧ width_Samples bits b = some ([], e)) ∨ (∃ m, b.length = m * nB bits ∧ m ≤ 600 ∧ width_Samples bits b = some (sxs (nB bits) m b, 0)) := by
  have hn := nB_pos bits
  rw [width_Samples, width_Samples_s0, rangeB h, bind_s]
  simp only
  rw [if_neg (by rw [gne_i]; simp), quoB h, okI_of (by rw [gne_i]; simp; omega), bind_s]
  have hr : irem (lenI b) (nB bits : Int) = ((b.length % nB bits : Nat) : Int) := by rw [irem, lenI, ← Int.ofNat_tmod]
  by_cases hm : b.length % nB bits = 0
  · right
    have hd := Nat.div_add_mod b.length (nB bits)
    have hle : b.length / nB bits ≤ b.length := Nat.div_le_self _ _
    have hq : gquo (lenI b) (nB bits : Int) = ((b.length / nB bits : Nat) : Int) := by
      rw [gquo_i, lenI, ← Int.ofNat_tdiv]
      generalize b.length / nB bits = k at *
      exact wrap64_id (by omega) (by omega)
    rw [if_neg (by rw [gne_i, hr, hm]; simp), bind_s, hq, if_neg (by rw [ggt_i]; simp; omega)]
    have hmul : b.length = b.length / nB bits * nB bits := by rw [hm, Nat.add_zero] at hd; rw [Nat.mul_comm]; exact hd.symm
    refine ⟨b.length / nB bits, hmul, by omega, ?_⟩
    have := samples_loop b bits (nB bits) (b.length / nB bits) hn hmul (by omega) (fun q a acc ha hc => stepB b h (by omega) q a acc ha hc) (b.length / nB bits) 0 FUEL (by omega) (by have := FUEL_gt; omega)
    rw [width_Samples_p16]
    simpa [sxs] using this
  · left
    rw [if_pos (by rw [gne_i, hr]; simp; omega)]
    exact ⟨12, by omega, rfl⟩
/-! back to bytes -/
theorem sx_range (bits : Int) (h : BitsOk bits) (a : Nat) : -(top bits) ≤ sx (nB bits) b a ∧ sx (nB bits) b a ≤ top bits - 1 := by
  have h0 := by_lt b a
  have h1 := by_lt b (a + 1)
  have h2 := by_lt b (a + 2)
  obtain rfl | rfl | rfl := h
  · show -128 ≤ (by' b a : Int) - 128 ∧ (by' b a : Int) - 128 ≤ 128 - 1
    omega
  · show -32768 ≤ sx 2 b a ∧ sx 2 b a ≤ 32768 - 1
    rw [sx2]; split <;> omega
  · show -8388608 ≤ sx 3 b a ∧ sx 3 b a ≤ 8388608 - 1
    rw [sx3]; split <;> omega
theorem top_le (bits : Int) : 0 < top bits ∧ top bits ≤ 8388608 := by unfold top; split; · omega
                                                                      split <;> omega
theorem check_loop32 {bits : Int} (h : BitsOk bits) (l : List Int32) (hl : l.length ≤ 4000) (hx : ∀ x ∈ l, -(top bits) ≤ x.toInt ∧ x.toInt ≤ top bits - 1) : ∀ (j i q : Nat), i + j = l.length → j < q → width_Check_l4 (Int32.ofInt (-(top bits))) (Int32.ofInt (top bits - 1)) l q (i : Int) = some 0
  | 0, i, q + 1, hi, _ => by
    rw [width_Check_l4, width_Check_s4, if_neg (by rw [glt_i, lenI]; simp; omega)]; rfl
  | j + 1, i, q + 1, hi, hq => by
    have hlt : i < l.length := by omega
    have hr := hx l[i] (List.getElem_mem hlt)
    have ht := top_le bits
    have g1 : glt l[i] (Int32.ofInt (-(top bits))) = false := by
      show decide (l[i].toInt < (Int32.ofInt (-(top bits))).toInt) = false
      rw [toInt_of (by omega) (by omega), decide_eq_false_iff_not]; omega
    have g2 : ggt l[i] (Int32.ofInt (top bits - 1)) = false := by
      show decide (l[i].toInt > (Int32.ofInt (top bits - 1)).toInt) = false
      rw [toInt_of (by omega) (by omega), decide_eq_false_iff_not]; omega
    rw [width_Check_l4, width_Check_s4, if_pos (by rw [glt_i, lenI]; simp; omega), getI_n hlt, bind_s, g1, g2, if_neg (by simp), gadd_n (by omega) (by omega)]
    exact check_loop32 h l hl hx j (i + 1) q (by omega) (by omega)
theorem byteOf (v : Int) (k : Nat) (h : -2147483648 ≤ v) (h' : v < 2147483648) (hk : k ≤ 32) (h1 : -2147483648 ≤ v.fdiv (2 ^ k)) (h2 : v.fdiv (2 ^ k) < 2147483648) : (gconv (gshr (Int32.ofInt v) k) : UInt8) = UInt8.ofNat ((v.fdiv (2 ^ k)) % 256).toNat := by
  have e : (gconv (gshr (Int32.ofInt v) k) : UInt8) = UInt8.ofNat (((Int32.ofInt ((Int32.ofInt v).toInt.fdiv (2 ^ min k 32))).toInt) % 256).toNat := rfl
  rw [e, toInt_of h h', Nat.min_eq_left hk, toInt_of h1 h2]
theorem is_by {z : Nat} {k : Nat} (h : z = by' b k) : UInt8.ofNat z = b.getD k 0 := by
  rw [h]; exact UInt8.ofNat_toNat
theorem bytes8 (bk : Int → List UInt8 → Option (List UInt8 × Int)) (l : List Int32) (i a : Nat) (acc : List UInt8) (hi : i ≤ 100000) (ha : acc.length ≤ 100000) :
    width_Bytes_p25 bk 8 l (i : Int) acc (gadd (Int32.ofInt (sx 1 b a)) (128 : Int32)) = bk ((i + 1 : Nat) : Int) (acc ++ [b.getD a 0]) := by
  have h0 := by_lt b a
  have hF : FUEL = (FUEL - 2) + 1 + 1 := by have := FUEL_gt; omega
  have q : gquo (8 : Int) 8 = 1 := by decide
  have z0 : (GI.toZ (gmul (8 : Int) 0)).toNat = 0 := by decide
  have e : gadd (Int32.ofInt (sx 1 b a)) (128 : Int32) = Int32.ofInt (by' b a : Int) := by
    have e1 : gadd (Int32.ofInt (sx 1 b a)) (128 : Int32) = Int32.ofInt ((Int32.ofInt ((by' b a : Int) - 128)).toInt + 128) := rfl
    rw [e1, toInt_of (by omega) (by omega)]; congr 1; omega
  have c0 : (gconv (gshr (Int32.ofInt (by' b a : Int)) 0) : UInt8) = b.getD a 0 := by
    rw [byteOf _ 0 (by omega) (by omega) (by omega) (by simp) (by simp; omega)]
    refine is_by b ?_
    simp; omega
  rw [e, width_Bytes_p25, width_Bytes_s25, width_Bytes_p26, hF, width_Bytes_l26, width_Bytes_s26, q, if_pos (by decide), okI_of (by decide), bind_s, z0, c0, appI_n (by simp; omega), bind_s, show gadd (0 : Int) 1 = 1 by decide,
    width_Bytes_l26, width_Bytes_s26, q, if_neg (by decide), width_Bytes_p28, width_Bytes_s28, gadd_n (by omega) (by omega)]; rfl
theorem bytes16 (bk : Int → List UInt8 → Option (List UInt8 × Int)) (l : List Int32) (i a : Nat) (acc : List UInt8) (hi : i ≤ 100000) (ha : acc.length ≤ 100000) :
    width_Bytes_p25 bk 16 l (i : Int) acc (Int32.ofInt (sx 2 b a)) = bk ((i + 1 : Nat) : Int) (acc ++ [b.getD a 0, b.getD (a + 1) 0]) := by
  have h0 := by_lt b a
  have h1 := by_lt b (a + 1)
  have hr : -32768 ≤ sx 2 b a ∧ sx 2 b a < 32768 := by rw [sx2]; split <;> omega
  have hF : FUEL = (FUEL - 3) + 1 + 1 + 1 := by have := FUEL_gt; omega
  have q : gquo (16 : Int) 8 = 2 := by decide
  have z0 : (GI.toZ (gmul (8 : Int) 0)).toNat = 0 := by decide
  have z1 : (GI.toZ (gmul (8 : Int) 1)).toNat = 8 := by decide
  have d0 : (sx 2 b a).fdiv (2 ^ 0) = sx 2 b a := by simp
  have d1 : (sx 2 b a).fdiv (2 ^ 8) = sx 2 b a / 256 := by rw [Int.fdiv_eq_ediv_of_nonneg _ (by omega)]; rfl
  have c0 : (gconv (gshr (Int32.ofInt (sx 2 b a)) 0) : UInt8) = b.getD a 0 := by
    rw [byteOf _ 0 (by omega) (by omega) (by omega) (by omega) (by omega), d0]
    refine is_by b ?_
    rw [sx2]; split <;> omega
  have c1 : (gconv (gshr (Int32.ofInt (sx 2 b a)) 8) : UInt8) = b.getD (a + 1) 0 := by
    rw [byteOf _ 8 (by omega) (by omega) (by omega) (by omega) (by omega), d1]
    refine is_by b ?_
    rw [sx2]; split <;> omega
  rw [width_Bytes_p25, width_Bytes_s25, width_Bytes_p26, hF, width_Bytes_l26, width_Bytes_s26, q, if_pos (by decide), okI_of (by decide), bind_s, z0, c0, appI_n (by simp; omega), bind_s, show gadd (0 : Int) 1 = 1 by decide,
    width_Bytes_l26, width_Bytes_s26, q, if_pos (by decide), okI_of (by decide), bind_s, z1, c1, appI_n (by simp; omega), bind_s, show gadd (1 : Int) 1 = 2 by decide,
    width_Bytes_l26, width_Bytes_s26, q, if_neg (by decide), width_Bytes_p28, width_Bytes_s28, gadd_n (by omega) (by omega), List.append_assoc]; rfl
theorem bytes24 (bk : Int → List UInt8 → Option (List UInt8 × Int)) (l : List Int32) (i a : Nat) (acc : List UInt8) (hi : i ≤ 100000) (ha : acc.length ≤ 100000) :
    width_Bytes_p25 bk 24 l (i : Int) acc (Int32.ofInt (sx 3 b a)) = bk ((i + 1 : Nat) : Int) (acc ++ [b.getD a 0, b.getD (a + 1) 0, b.getD (a + 2) 0]) := by
  have h0 := by_lt b a
  have h1 := by_lt b (a + 1)
  have h2 := by_lt b (a + 2)
  have hr : -8388608 ≤ sx 3 b a ∧ sx 3 b a < 8388608 := by rw [sx3]; split <;> omega
  have hF : FUEL = (FUEL - 4) + 1 + 1 + 1 + 1 := by have := FUEL_gt; omega
  have q : gquo (24 : Int) 8 = 3 := by decide
  have z0 : (GI.toZ (gmul (8 : Int) 0)).toNat = 0 := by decide
  have z1 : (GI.toZ (gmul (8 : Int) 1)).toNat = 8 := by decide
  have z2 : (GI.toZ (gmul (8 : Int) 2)).toNat = 16 := by decide
  have d0 : (sx 3 b a).fdiv (2 ^ 0) = sx 3 b a := by simp
  have d1 : (sx 3 b a).fdiv (2 ^ 8) = sx 3 b a / 256 := by rw [Int.fdiv_eq_ediv_of_nonneg _ (by omega)]; rfl
  have d2 : (sx 3 b a).fdiv (2 ^ 16) = sx 3 b a / 65536 := by rw [Int.fdiv_eq_ediv_of_nonneg _ (by omega)]; rfl
  have c0 : (gconv (gshr (Int32.ofInt (sx 3 b a)) 0) : UInt8) = b.getD a 0 := by
    rw [byteOf _ 0 (by omega) (by omega) (by omega) (by omega) (by omega), d0]
    refine is_by b ?_
    rw [sx3]; split <;> omega
  have c1 : (gconv (gshr (Int32.ofInt (sx 3 b a)) 8) : UInt8) = b.getD (a + 1) 0 := by
    rw [byteOf _ 8 (by omega) (by omega) (by omega) (by omega) (by omega), d1]
    refine is_by b ?_
    rw [sx3]; split <;> omega
  have c2 : (gconv (gshr (Int32.ofInt (sx 3 b a)) 16) : UInt8) = b.getD (a + 2) 0 := by
    rw [byteOf _ 16 (by omega) (by omega) (by omega) (by omega) (by omega), d2]
    refine is_by b ?_
    rw [sx3]; split <;> omega
  rw [width_Bytes_p25, width_Bytes_s25, width_Bytes_p26, hF, width_Bytes_l26, width_Bytes_s26, q, if_pos (by decide), okI_of (by decide), bind_s, z0, c0, appI_n (by simp; omega), bind_s, show gadd (0 : Int) 1 = 1 by decide,
    width_Bytes_l26, width_Bytes_s26, q, if_pos (by decide), okI_of (by decide), bind_s, z1, c1, appI_n (by simp; omega), bind_s, show gadd (1 : Int) 1 = 2 by decide,
    width_Bytes_l26, width_Bytes_s26, q, if_pos (by decide), okI_of (by decide), bind_s, z2, c2, appI_n (by simp; omega), bind_s, show gadd (2 : Int) 1 = 3 by decide,
    width_Bytes_l26, width_Bytes_s26, q, if_neg (by decide), width_Bytes_p28, width_Bytes_s28, gadd_n (by omega) (by omega), List.append_assoc, List.append_assoc]; rfl
theorem take_by {b : List UInt8} {k : Nat} (h : k < b.length) : b.take (k + 1) = b.take k ++ [b.getD k 0] := by
  rw [take_snoc h]; simp [List.getD_eq_getElem?_getD, h]
theorem bytes_loop {bits : Int} (h : BitsOk bits) (m : Nat) (hm : b.length = m * nB bits) (hl : b.length ≤ 600) : ∀ (j x q : Nat), x + j = m → j < q → width_Bytes_l16 bits (sxs (nB bits) m b) q (x : Int) (b.take (x * nB bits)) = some (b, 0)
  | 0, x, q + 1, hx, _ => by
    obtain rfl : x = m := by omega
    rw [width_Bytes_l16, width_Bytes_s16, if_neg (by rw [glt_i, lenI, sxs_len]; simp), ← hm, List.take_length]; rfl
  | j + 1, x, q + 1, hx, hq => by
    have hn := nB_pos bits
    have h1 : (x + 1) * nB bits ≤ m * nB bits := Nat.mul_le_mul_right _ (by omega)
    have h2 : m ≤ m * nB bits := Nat.le_mul_of_pos_right m hn
    have h3 : (x + 1) * nB bits = x * nB bits + nB bits := by rw [Nat.add_mul, Nat.one_mul]
    have hg : getI (sxs (nB bits) m b) (x : Int) = some (Int32.ofInt (sx (nB bits) b (x * nB bits))) := by
      rw [getI_n (by rw [sxs_len]; omega)]; simp [sxs]
    have ih := bytes_loop h m hm hl j (x + 1) q (by omega) (by omega)
    have ht : (b.take (x * nB bits)).length ≤ 100000 := by simp; omega
    rw [width_Bytes_l16, width_Bytes_s16, if_pos (by rw [glt_i, lenI, sxs_len]; simp; omega), hg, bind_s, ← ih]
    obtain rfl | rfl | rfl := h
    · have hn1 : nB 8 = 1 := rfl
      rw [hn1] at ht h3 h1 hm ⊢
      rw [if_pos (by decide), bytes8 b _ _ x (x * 1) _ (by omega) ht, h3, take_by (by omega)]
    · have hn1 : nB 16 = 2 := rfl
      rw [hn1] at ht h3 h1 hm ⊢
      rw [if_neg (by decide), bytes16 b _ _ x (x * 2) _ (by omega) ht, h3, show x * 2 + 2 = x * 2 + 1 + 1 by omega, take_by (by omega), take_by (by omega), List.append_assoc]; rfl
    · have hn1 : nB 24 = 3 := rfl
      rw [hn1] at ht h3 h1 hm ⊢
      rw [if_neg (by decide), bytes24 b _ _ x (x * 3) _ (by omega) ht, h3, show x * 3 + 3 = x * 3 + 1 + 1 + 1 by omega, take_by (by omega), take_by (by omega), take_by (by omega), List.append_assoc, List.append_assoc]; rfl
theorem Bytes_back {bits : Int} (h : BitsOk bits) (m : Nat) (hm : b.length = m * nB bits) (hl : b.length ≤ 600) : width_Bytes bits (sxs (nB bits) m b) = some (b, 0) := by
  have hn := nB_pos bits
  have h2 : m ≤ m * nB bits := Nat.le_mul_of_pos_right m hn
  have ht := top_le bits
  have hc : width_Check bits (sxs (nB bits) m b) = some 0 := by
    rw [width_Check, width_Check_s0, rangeB h, bind_s]
    simp only
    rw [if_neg (by rw [gne_i]; simp), if_neg (by rw [ggt_i, lenI, sxs_len]; simp; omega)]
    refine check_loop32 h _ (by rw [sxs_len]; omega) ?_ m 0 FUEL (by rw [sxs_len]; omega) (by have := FUEL_gt; omega)
    intro x hx
    simp only [sxs, List.mem_map, List.mem_range] at hx
    obtain ⟨k, _, rfl⟩ := hx
    have := sx_range b bits h (k * nB bits)
    rw [toInt_of (by omega) (by omega)]; exact this
  have := bytes_loop b h m hm hl m 0 FUEL (by omega) (by have := FUEL_gt; omega)
  rw [width_Bytes, width_Bytes_s0, hc, bind_s, if_neg (by rw [gne_i]; simp), width_Bytes_p16]
  simpa using this
end Go.Pl

set_option linter.unusedVariables false
set_option linter.unusedSimpArgs false
namespace Go.Pl
open Go Go.Lv
/-! ### the taps of a password -/
theorem tbl64_inner (bk : Int → List UInt64 → Option (UInt64 × Int)) (s : UInt64) (b : List UInt8) (x : Int) (t : List UInt64) : ∀ (j i q : Nat) (c : UInt64), i + j = 8 → j < q → ∃ c', crc64_Next_l21 bk s b x t q c (i : Int) = crc64_Next_p23 bk s b x c' t
  | 0, i, q + 1, c, hi, _ => by
    obtain rfl : i = 8 := by omega
    exact ⟨c, by rw [crc64_Next_l21, crc64_Next_s21, if_neg (by rw [glt_i]; simp)]⟩
  | j + 1, i, q + 1, c, hi, hq => by
    rw [crc64_Next_l21, crc64_Next_s21, if_pos (by rw [glt_i]; simp; omega), gadd_n (by omega) (by omega), show ((i : Int) + 1) = ((i + 1 : Nat) : Int) by omega]
    exact tbl64_inner bk s b x t j (i + 1) q _ (by omega) (by omega)
theorem tbl64_loop (s : UInt64) (b : List UInt8) : ∀ (j i q : Nat) (t : List UInt64), i + j = 256 → j < q → t.length = 256 → ∃ t', crc64_Next_l16 s b q (i : Int) t = crc64_Next_p26 s b t' ∧ t'.length = 256
  | 0, i, q + 1, t, hi, _, ht => by
    obtain rfl : i = 256 := by omega
    exact ⟨t, by rw [crc64_Next_l16, crc64_Next_s16, if_neg (by rw [glt_i]; simp)], ht⟩
  | j + 1, i, q + 1, t, hi, hq, ht => by
    rw [crc64_Next_l16, crc64_Next_s16, if_pos (by rw [glt_i]; simp; omega), crc64_Next_p21]
    obtain ⟨c', h⟩ := tbl64_inner (crc64_Next_l16 s b q) s b (i : Int) t 8 0 FUEL (gshl (gconv (i : Int) : UInt64) (GI.toZ (56 : UInt64)).toNat) (by omega) (by have := FUEL_gt; omega)
    rw [show ((0 : Nat) : Int) = (0 : Int) from rfl] at h
    rw [h, crc64_Next_p23, crc64_Next_s23, getI_n (by omega), bind_s, setI_n _ (by omega), bind_s, crc64_Next_p24, crc64_Next_s24, gadd_n (by omega) (by omega), show ((i : Int) + 1) = ((i + 1 : Nat) : Int) by omega]
    exact tbl64_loop s b j (i + 1) q _ (by omega) (by omega) (by simpa using ht)
theorem next64_loop (b : List UInt8) (hb : b.length ≤ 100000) (s0 : UInt64) (t : List UInt64) (ht : t.length = 256) : ∀ (j i q : Nat) (s : UInt64), i + j = b.length → j < q → ∃ x, crc64_Next_l27 b s0 t q s (i : Int) = some (x, 0)
  | 0, i, q + 1, s, hi, _ => ⟨s, by rw [crc64_Next_l27, crc64_Next_s27, if_neg (by rw [glt_i, lenI]; simp; omega)]; rfl⟩
  | j + 1, i, q + 1, s, hi, hq => by
    have hlt : i < b.length := by omega
    have hg : ∀ c : UInt8, ∃ y, getI t (GI.toZ c) = some y := fun c => by
      rw [toZ_u8, getI_n (by have := c.toNat_lt; omega)]; exact ⟨_, rfl⟩
    obtain ⟨y, hy⟩ := hg (gxor (gconv (gshr s (GI.toZ (56 : UInt64)).toNat) : UInt8) b[i])
    rw [crc64_Next_l27, crc64_Next_s27, if_pos (by rw [glt_i, lenI]; simp; omega), getI_n hlt, bind_s, hy, bind_s, bind_s, gadd_n (by omega) (by omega), show ((i : Int) + 1) = ((i + 1 : Nat) : Int) by omega]
    exact next64_loop b hb s0 t ht j (i + 1) q _ (by omega) (by omega)
theorem sum64 (b : List UInt8) (hb : b.length ≤ 100000) : ∃ x, crc64_Sum b = some (x, 0) := by
  obtain ⟨t', h1, h2⟩ := tbl64_loop 0 b 256 0 FUEL (List.replicate 256 0) (by omega) (by have := FUEL_gt; omega) List.length_replicate
  obtain ⟨x, h3⟩ := next64_loop b hb 0 t' h2 b.length 0 FUEL 0 (by omega) (by have := FUEL_gt; omega)
  refine ⟨x, ?_⟩
  have h1' : crc64_Next_p16 0 b 0 (List.replicate 256 0) = crc64_Next_p26 0 b t' := h1
  have h3' : crc64_Next_p27 b 0 t' 0 0 = some (x, 0) := h3
  rw [crc64_Sum, crc64_Next, crc64_Next_s0, if_neg (by rw [ggt_i, lenI]; simp; omega), h1', crc64_Next_p26, crc64_Next_s26, h3']
  rfl
theorem of_loop (d : UInt64) : ∀ (j i q : Nat) (t : List Int32), i + j = 8 → j < q → t.length = 16 → ∃ t', seed_Of_l4 d q (i : Int) t = some t' ∧ t'.length = 16
  | 0, i, q + 1, t, hi, _, ht => by
    obtain rfl : i = 8 := by omega
    exact ⟨t, by rw [seed_Of_l4, seed_Of_s4, if_neg (by rw [glt_i]; simp)]; rfl, ht⟩
  | j + 1, i, q + 1, t, hi, hq, ht => by
    rw [seed_Of_l4, seed_Of_s4, if_pos (by rw [glt_i]; simp; omega), gmul_n (by omega) (by omega), okI_of (by rw [gge_i]; simp; omega), bind_s, getI_n (by omega), bind_s, setI_n _ (by omega), bind_s, gadd_n (by omega) (by omega), show ((i : Int) + 1) = ((i + 1 : Nat) : Int) by omega]
    exact of_loop d j (i + 1) q _ (by omega) (by omega) (by simpa using ht)
theorem taps_some (p : List UInt8) (hp : p.length ≤ 64) : ∃ t, seed_Taps p = some (t, 0) ∧ t.length = 16 := by
  obtain ⟨x, hx⟩ := sum64 p (by omega)
  obtain ⟨t, h1, h2⟩ := of_loop x 8 0 FUEL (List.replicate 16 0) (by omega) (by have := FUEL_gt; omega) (by simp)
  refine ⟨t, ?_, h2⟩
  have h1' : seed_Of x = some t := h1
  rw [seed_Taps, if_neg (by rw [ggt_i, lenI]; simp; omega), hx, bind_s]
  simp only
  rw [if_neg (by rw [gne_i]; simp), h1', bind_s]
/-! ### a channel from front to end -/
theorem okNew (bits : Int) {t : List Int32} (ht : t.length = 16) : OkF (sB bits) t (List.replicate 16 0) := ⟨sB_ok bits, ht, by simp⟩
section
variable {bits : Int} (h : BitsOk bits) {t : List Int32} (ht : t.length = 16) (l : List Int32) (hl : l.length ≤ 4000)
include h ht hl
theorem chainAll : chain_All bits 0 (sB bits) t (List.replicate 16 0) l = some ((fwd (sB bits) (shB bits) t (List.replicate 16 0) 0 l).1, bits, (fwd (sB bits) (shB bits) t (List.replicate 16 0) 0 l).2.2.2, sB bits, (fwd (sB bits) (shB bits) t (List.replicate 16 0) 0 l).2.1, (fwd (sB bits) (shB bits) t (List.replicate 16 0) 0 l).2.2.1, 0) := by
  have := allLoop h l hl l.length 0 FUEL t (List.replicate 16 0) 0 [] (by omega) (by have := FUEL_gt; omega) (okNew bits ht) rfl
  have hc : chain_check bits 0 (sB bits) t (List.replicate 16 0) l = some 0 := by
    rw [chain_check, chainCheck h, bind_s, if_neg (by rw [gne_i]; simp), if_neg (by rw [ggt_i, lenI]; simp; omega)]
  rw [chain_All, chain_All_s0, hc, bind_s, if_neg (by rw [gne_i]; simp), chain_All_p4]
  simpa using this
theorem chainUndo : chain_Undo bits 0 (sB bits) t (List.replicate 16 0) (fwd (sB bits) (shB bits) t (List.replicate 16 0) 0 l).1 = some (l, bits, (fwd (sB bits) (shB bits) t (List.replicate 16 0) 0 l).2.2.2, sB bits, (fwd (sB bits) (shB bits) t (List.replicate 16 0) 0 l).2.1, (fwd (sB bits) (shB bits) t (List.replicate 16 0) 0 l).2.2.1, 0) := by
  have hlen := fwd_len (sB bits) (shB bits) l t (List.replicate 16 0) 0
  have := undoLoop h (fwd (sB bits) (shB bits) t (List.replicate 16 0) 0 l).1 (by omega) l 0 FUEL t (List.replicate 16 0) 0 [] (by omega) (by have := FUEL_gt; omega) (okNew bits ht) rfl rfl
  have hc : chain_check bits 0 (sB bits) t (List.replicate 16 0) (fwd (sB bits) (shB bits) t (List.replicate 16 0) 0 l).1 = some 0 := by
    rw [chain_check, chainCheck h, bind_s, if_neg (by rw [gne_i]; simp), if_neg (by rw [ggt_i, lenI, hlen]; simp; omega)]
  rw [chain_Undo, chain_Undo_s0, hc, bind_s, if_neg (by rw [gne_i]; simp), chain_Undo_p4]
  simpa using this
end
theorem lmsAll (bits : Int) {t : List Int32} (ht : t.length = 16) (l : List Int32) (hl : l.length ≤ 4000) : lms_All (sB bits) t (List.replicate 16 0) (dif (shB bits) 0 l) = some ((fwd (sB bits) (shB bits) t (List.replicate 16 0) 0 l).1, sB bits, (fwd (sB bits) (shB bits) t (List.replicate 16 0) 0 l).2.1, (fwd (sB bits) (shB bits) t (List.replicate 16 0) 0 l).2.2.1, 0) := by
  have hlen := dif_len (shB bits) l 0
  have hF := okNew bits ht
  have := lmsLoop (sh := shB bits) (sB bits) t (List.replicate 16 0) (dif (shB bits) 0 l) (by omega) l 0 FUEL t (List.replicate 16 0) 0 [] (by omega) (by have := FUEL_gt; omega) hF rfl rfl
  rw [lms_All, lms_All_s0, tapsCheck hF, bind_s, if_neg (by rw [gne_i]; simp), if_neg (by rw [ggt_i, lenI, hlen]; simp; omega), lms_All_p11]
  simpa using this
theorem same_loop (l : List Int32) (hl : l.length ≤ 100000) : ∀ (j i q : Nat), i + j = l.length → j < q → cadenzaref13_Same_l4 l l q (i : Int) = some true
  | 0, i, q + 1, hi, _ => by rw [cadenzaref13_Same_l4, cadenzaref13_Same_s4, if_neg (by rw [glt_i, lenI]; simp; omega)]; rfl
  | j + 1, i, q + 1, hi, hq => by
    rw [cadenzaref13_Same_l4, cadenzaref13_Same_s4, if_pos (by rw [glt_i, lenI]; simp; omega), getI_n (by omega), bind_s, bind_s, if_neg (by rw [gne_i32]; simp), gadd_n (by omega) (by omega)]
    exact same_loop l hl j (i + 1) q (by omega) (by omega)
theorem same_refl (l : List Int32) (hl : l.length ≤ 100000) : cadenzaref13_Same l l = some true := by
  have := same_loop l hl l.length 0 FUEL (by omega) (by have := FUEL_gt; omega)
  rw [cadenzaref13_Same, cadenzaref13_Same_s0, if_neg (by rw [gne_i]; simp)]
  exact this
theorem geqL_refl : ∀ a : List Int32, geqL a a = true
  | [] => rfl
  | x :: a => by rw [geqL, geqL_refl a, geq_i32]; simp
/-! ### one channel out of all -/
def own (l : List Int32) (ch c m : Nat) : List Int32 := (List.range m).map fun x => l.getD (c + x * ch) 0
theorem own_len (l : List Int32) (ch c m : Nat) : (own l ch c m).length = m := by simp [own]
theorem own_snoc (l : List Int32) (ch c m : Nat) : own l ch c (m + 1) = own l ch c m ++ [l.getD (c + m * ch) 0] := by simp [own, List.range_succ]
theorem getI_D32 {l : List Int32} {k : Nat} (h : k < l.length) : getI l (k : Int) = some (l.getD k 0) := by rw [getI_n h, getD_lt h]
variable (l : List Int32) (ch m : Nat) (hl : l.length = m * ch) (hl2 : l.length ≤ 4000) (h1 : 1 ≤ ch) (h6 : ch ≤ 6)
include hl hl2 h1 h6
theorem every_loop (c : Nat) (hc : c < ch) : ∀ (j x q : Nat), x + j = m → j < q → cadenzatop_every19_l4 l (ch : Int) q ((c + x * ch : Nat) : Int) (own l ch c x) = some (own l ch c m)
  | 0, x, q + 1, hx, _ => by
    obtain rfl : x = m := by omega
    rw [cadenzatop_every19_l4, cadenzatop_every19_s4, if_neg (by rw [glt_i, lenI]; simp; omega)]; rfl
  | j + 1, x, q + 1, hx, hq => by
    have q1 : (x + 1) * ch ≤ m * ch := Nat.mul_le_mul_right ch (by omega)
    rw [Nat.add_mul, Nat.one_mul] at q1
    have q2 : m ≤ m * ch := Nat.le_mul_of_pos_right m h1
    rw [cadenzatop_every19_l4, cadenzatop_every19_s4, if_pos (by rw [glt_i, lenI]; simp; omega), getI_D32 (by omega), bind_s, appI_n (by rw [own_len]; simp; omega), bind_s, gadd_n (by omega) (by omega), ← own_snoc, show ((c + x * ch : Nat) : Int) + (ch : Int) = ((c + (x + 1) * ch : Nat) : Int) by rw [Nat.add_mul, Nat.one_mul]; omega]
    exact every_loop c hc j (x + 1) q (by omega) (by omega)
theorem every_eq (c : Nat) (hc : c < ch) : cadenzatop_every19 l (c : Int) (ch : Int) = some (own l ch c m) := by
  have q2 : m ≤ m * ch := Nat.le_mul_of_pos_right m h1
  have := every_loop l ch m hl hl2 h1 h6 c hc m 0 FUEL (by omega) (by have := FUEL_gt; omega)
  rw [cadenzatop_every19, cadenzatop_every19_s0, cadenzatop_every19_p4]
  simpa [own] using this
/-- A channel is put back. -/
theorem put_loop (bk : Int → List Int32 → Option Bool) (bits : Int) (b4 : List UInt8) (ok : Bool) (r13 : Int) (a14 a15 : List Int32) (r17 : Int) (r18 : Int32) (r19 : Int) (a20 a21 z : List Int32) (c : Nat) (hc : c < ch) : ∀ (j x q : Nat), x + j = m → j < q →
    cadenzatop_TopChannel_l20 bk bits (ch : Int) b4 ok l r13 a14 a15 r17 r18 r19 a20 a21 (c : Int) (own l ch c m) q (x : Int) (sel (fun k => decide (k % ch < c ∨ (k % ch = c ∧ k / ch < x))) l z) =
    bk ((c + 1 : Nat) : Int) (sel (fun k => decide (k % ch < c + 1)) l z)
  | 0, x, q + 1, hx, _ => by
    obtain rfl : x = m := by omega
    rw [cadenzatop_TopChannel_l20, cadenzatop_TopChannel_s20, if_neg (by rw [glt_i, lenI, own_len]; simp), cadenzatop_TopChannel_p22, cadenzatop_TopChannel_s22, gadd_n (by omega) (by omega)]
    rw [show ((c : Int) + 1) = ((c + 1 : Nat) : Int) by omega]
    congr 1
    apply sel_congr
    intro k hk
    have : k / ch < x := (Nat.div_lt_iff_lt_mul (by omega)).2 (by omega)
    rw [Bool.eq_iff_iff]; simp only [decide_eq_true_eq]; omega
  | j + 1, x, q + 1, hx, hq => by
    have q1 : (x + 1) * ch ≤ m * ch := Nat.mul_le_mul_right ch (by omega)
    rw [Nat.add_mul, Nat.one_mul] at q1
    have q2 : m ≤ m * ch := Nat.le_mul_of_pos_right m h1
    have e1 : gmul (x : Int) (ch : Int) = ((x * ch : Nat) : Int) := by rw [gmul_i, ← Int.natCast_mul, wrap64_id (by omega) (by omega)]
    have e2 : gadd (c : Int) ((x * ch : Nat) : Int) = ((c + x * ch : Nat) : Int) := by rw [gadd_n (by omega) (by omega)]; omega
    have hg : getI (own l ch c m) (x : Int) = some (l.getD (c + x * ch) 0) := by
      rw [getI_n (by rw [own_len]; omega)]; simp [own]
    rw [cadenzatop_TopChannel_l20, cadenzatop_TopChannel_s20, if_pos (by rw [glt_i, lenI, own_len]; simp; omega), hg, bind_s, bind_s, e1, e2, sel_get (by omega), bind_s, sel_set (by omega), bind_s, gadd_n (by omega) (by omega)]
    have ih := put_loop bk bits b4 ok r13 a14 a15 r17 r18 r19 a20 a21 z c hc j (x + 1) q (by omega) (by omega)
    rw [← ih, show ((x : Int) + 1) = ((x + 1 : Nat) : Int) by omega]
    congr 1
    apply sel_congr
    intro k hk
    have d := Nat.div_add_mod k ch
    have hkx : k = c + x * ch ↔ (k % ch = c ∧ k / ch = x) := by
      constructor
      · intro e
        subst e
        exact ⟨by rw [Nat.add_mul_mod_self_right, Nat.mod_eq_of_lt hc], by rw [Nat.add_mul_div_right _ _ (by omega), Nat.div_eq_of_lt hc, Nat.zero_add]⟩
      · rintro ⟨e3, e4⟩
        rw [e3, e4, Nat.mul_comm] at d; omega
    rw [Bool.eq_iff_iff]; simp only [Bool.or_eq_true, decide_eq_true_eq, hkx]; omega
theorem main_loop {bits : Int} (h : BitsOk bits) (b4 : List UInt8) (ok : Bool) {t : List Int32} (ht : t.length = 16) (z : List Int32) (hm4 : m ≤ 4000) : ∀ (j c q : Nat), c + j = ch → j < q →
    cadenzatop_TopChannel_l14 bits (ch : Int) b4 ok l (sB bits) t (List.replicate 16 0) bits 0 (sB bits) t (List.replicate 16 0) q (c : Int) (sel (fun k => decide (k % ch < c)) l z) = cadenzatop_TopChannel_p24 bits (ch : Int) b4 ok l
  | 0, c, q + 1, hc, _ => by
    obtain rfl : c = ch := by omega
    rw [cadenzatop_TopChannel_l14, cadenzatop_TopChannel_s14, if_neg (by rw [glt_i]; simp), sel_all]
    intro k _
    have := Nat.mod_lt k (show c > 0 by omega)
    simpa using this
  | j + 1, c, q + 1, hc, hq => by
    have hlt : c < ch := by omega
    have ho : (own l ch c m).length ≤ 4000 := by rw [own_len]; exact hm4
    have g0 : gne (0 : Int) 0 = false := by decide
    have gi : ∀ x : Int, geq x x = true := fun x => by rw [geq_i]; exact beq_self_eq_true x
    have g3 : ∀ x : Int32, geq x x = true := fun x => by rw [geq_i32]; exact beq_self_eq_true x
    rw [cadenzatop_TopChannel_l14, cadenzatop_TopChannel_s14, if_pos (by rw [glt_i]; simp; omega), every_eq l ch m hl hl2 h1 h6 c hlt, bind_s, chainAll h ht _ ho, bind_s]
    simp only
    rw [dif_eq h _ ho, bind_s]
    simp only
    rw [lmsAll bits ht _ ho, bind_s]
    simp only
    rw [chainUndo h ht _ ho, bind_s]
    simp only [g0, gi, g3, geqL_refl, Bool.or_self, Bool.and_self, Bool.not_true, Bool.false_eq_true, if_false]
    rw [same_refl _ (by rw [fwd_len]; omega), bind_s, same_refl _ (by omega), bind_s]
    simp only [Bool.not_true, Bool.false_eq_true, if_false, Bool.or_self]
    rw [cadenzatop_TopChannel_p19, cadenzatop_TopChannel_s19, cadenzatop_TopChannel_p20]
    have hp := put_loop l ch m hl hl2 h1 h6 (cadenzatop_TopChannel_l14 bits (ch : Int) b4 ok l (sB bits) t (List.replicate 16 0) bits 0 (sB bits) t (List.replicate 16 0) q) bits b4 ok (sB bits) t (List.replicate 16 0) bits 0 (sB bits) t (List.replicate 16 0) z c hlt m 0 FUEL (by omega) (by have := FUEL_gt; omega)
    have e : sel (fun k => decide (k % ch < c ∨ (k % ch = c ∧ k / ch < 0))) l z = sel (fun k => decide (k % ch < c)) l z := by
      apply sel_congr
      intro k _
      rw [Bool.eq_iff_iff]; simp
    rw [e] at hp
    refine Eq.trans hp ?_
    exact main_loop h b4 ok ht z hm4 j (c + 1) q (by omega) (by omega)
end Go.Pl
namespace Go.Pl
open Go Go.Lv
theorem alive_true : cadenzatop_alive19 = some true := by decide +kernel
theorem law_TopChannel (bits ch : Int) (password b : List UInt8) : cadenzatop_TopChannel bits ch password b = some true := by
  rw [cadenzatop_TopChannel, cadenzatop_TopChannel_s0, alive_true, bind_s]
  by_cases h0 : b.length ≤ 600 ∧ password.length ≤ 64
  · rw [if_neg (by simp [ggt_i, lenI]; omega)]
    by_cases h : BitsOk bits
    · rcases Samples_eq b h h0.1 with ⟨e, he, hs⟩ | ⟨m, hm, hm6, hs⟩
      · rw [hs, bind_s]
        simp only
        rw [if_pos (by rw [gne_i]; simpa using he)]
      · rw [hs, bind_s]
        simp only
        rw [if_neg (by rw [gne_i]; simp)]
        have hL := sxs_len (nB bits) m b
        have hB := Bytes_back b h m hm h0.1
        generalize sxs (nB bits) m b = l at *
        by_cases hch : 1 ≤ ch ∧ ch ≤ 6
        · obtain ⟨n, rfl⟩ := Int.eq_ofNat_of_zero_le (show 0 ≤ ch by omega)
          have hn1 : 1 ≤ n := by omega
          have hn6 : n ≤ 6 := by omega
          have hr : irem (lenI l) (n : Int) = ((l.length % n : Nat) : Int) := by rw [irem, lenI, ← Int.ofNat_tmod]
          by_cases hd : l.length % n = 0
          · have hck : cadenzaref17_Check (n : Int) l = some 0 := by
              rw [cadenzaref17_Check, if_neg (by simp [glt_i, ggt_i]; omega), if_neg (by rw [ggt_i, lenI]; simp; omega), okI_of (by rw [gne_i]; simp; omega), bind_s, hr, hd, if_neg (by decide)]
            obtain ⟨t, ht1, ht2⟩ := taps_some password h0.2
            have hl4 : l.length ≤ 4000 := by omega
            have hmx := mix_eq n l hn1 hn6 hd hl4
            have hml := mixS_len n l
            have hmu := undo_eq n l hn1 hn6 hd hl4
            have hk : (mixS n l).length = l.length / n * n := by
              have := Nat.div_add_mod l.length n
              rw [hd, Nat.add_zero, Nat.mul_comm] at this
              omega
            have hk4 : l.length / n ≤ 4000 := Nat.le_trans (Nat.div_le_self _ _) hl4
            have hnew : chain_New bits t = some (bits, 0, sB bits, t, List.replicate 16 0, 0) := by
              rw [chain_New, newT h, bind_s]
              simp only
              rw [if_neg (by rw [gne_i]; simp)]
            have g0 : gne (0 : Int) 0 = false := by decide
            have gi : ∀ x : Int, geq x x = true := fun x => by rw [geq_i]; exact beq_self_eq_true x
            have gn : gne (lenI (mixS n l)) (lenI l) = false := by rw [lenI, lenI, hml, gne_i]; simp
            have gz : gne (0 : Int32) 0 = false := by decide
            rw [hck, bind_s, if_neg (by rw [gne_i]; simp), cadenzatop_TopChannel_p13, cadenzatop_TopChannel_s13, hmx, bind_s]
            simp only
            rw [ht1, bind_s]
            simp only
            rw [newT h, bind_s]
            simp only
            rw [hnew, bind_s]
            simp only [g0, gi, gn, gz, geqL_refl, Bool.or_self, Bool.and_self, Bool.not_true, Bool.false_eq_true, if_false]
            rw [lenI, mkI_n (by omega) (by omega), bind_s, okI_t, bind_s, cadenzatop_TopChannel_p14]
            have hz := main_loop (mixS n l) n (l.length / n) hk (by omega) hn1 hn6 h b true ht2 (List.replicate ((l.length : Nat) : Int).toNat 0) hk4 n 0 FUEL (by omega) (by have := FUEL_gt; omega)
            rw [sel_none (by simp [hml]) (fun k _ => by simp)] at hz
            refine Eq.trans hz ?_
            rw [cadenzatop_TopChannel_p24, cadenzatop_TopChannel_s24, hmu, bind_s]
            simp only
            rw [hB, bind_s]
            simp only [gi, Bool.and_self, beq_self_eq_true]
          · have hck : cadenzaref17_Check (n : Int) l = some 2 := by
              rw [cadenzaref17_Check, if_neg (by simp [glt_i, ggt_i]; omega), if_neg (by rw [ggt_i, lenI]; simp; omega), okI_of (by rw [gne_i]; simp; omega), bind_s, hr, if_pos (by rw [ggt_i]; simp; omega)]
            rw [hck, bind_s, if_pos (by decide)]
        · have hck : cadenzaref17_Check ch l = some 2 := by
            rw [cadenzaref17_Check, if_pos (by simp [glt_i, ggt_i]; omega)]
          rw [hck, bind_s, if_pos (by decide)]
    · rw [Samples_no b h, bind_s]
      simp only
      rw [if_pos (by decide)]
  · rw [if_pos (by simp [ggt_i, lenI]; omega)]
end Go.Pl
