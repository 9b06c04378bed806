/- Facts of types, by the kernel. -/
import Derived.Test.YtbacpdojepghaaaLvAux
set_option linter.unusedVariables false
set_option linter.unusedSimpArgs false
namespace Go.Lv
variable {P : Program} {n : Nat} {ops : Array Oper} {rest : List Oper} {K : Env → World → Prop} {Q : Exit → Env → World → Prop} {σ : Env} {w : World}
variable {d : Nat} {ty : TypeId} {pos : String} {after : Array Edge} {A : Reg} {F : List Fact} {L : List Mob}
/-! ### a program's facts on types, by the kernel -/
theorem UndIs.plain {t : TypeId} (h : (P.underlying t).map aggB = some false) : Plain P t := by
  cases hu : P.underlying t with
  | none => rw [hu] at h; cases h
  | some u => rw [hu] at h; exact ⟨u, hu, by simpa using h⟩
theorem UndIs.aggr {t : TypeId} (h : (P.underlying t).map aggB = some true) : Aggr P t := by
  cases hu : P.underlying t with
  | none => rw [hu] at h; cases h
  | some u => rw [hu] at h; exact ⟨u, hu, by simpa using h⟩
theorem SizeIs.mk {t : TypeId} {s : Nat} (h : (P.info? t).map (·.size) = some s) : SizeIs P t s := by
  cases hu : P.info? t with
  | none => rw [hu] at h; cases h
  | some u => rw [hu] at h; exact ⟨u, hu, by simpa using h⟩
theorem ZeroIs.mk {t : TypeId} {z : Value} (h : (P.info? t).bind (·.zero) = some z) : ∃ i, P.info? t = some i ∧ i.zero = some z := by
  cases hu : P.info? t with
  | none => rw [hu] at h; cases h
  | some u => rw [hu] at h; exact ⟨u, rfl, h⟩
theorem ElemOk.mk' {t : TypeId} {s b : Nat} (z : Value) (h : (P.info? t).map (fun i => (i.size, i.zero, i.bytes)) = some (s, some z, b)) (hz : z.cells.size = s) (hp : 0 < s) (hb : b ≤ 4096) : ElemOk P t s := by
  cases hu : P.info? t with
  | none => rw [hu] at h; cases h
  | some u =>
    rw [hu] at h; simp at h
    exact ⟨⟨u, z, hu, h.1, h.2.1, hz, by omega⟩, hp⟩
def fieldInfo (P : Program) (t : TypeId) (f : Nat) : Option (Nat × Nat) :=
  match P.underlying t with
  | some (.struct fs) => (fs[f]?).bind fun fd => (P.info? fd.type).map fun i => (fd.offset, i.size)
  | _ => none
theorem FieldAt.mk {t : TypeId} {f k s : Nat} (h : fieldInfo P t f = some (k, s)) (hs : s ≠ 0) : FieldAt P t f k := by
  unfold fieldInfo at h
  split at h
  · rename_i fs hu
    cases hf : fs[f]? with
    | none => rw [hf] at h; cases h
    | some fd =>
      rw [hf] at h; simp at h
      obtain ⟨i, hi, h1, h2⟩ := h
      exact ⟨fs, fd, i, hu, hf, h1, hi, by omega⟩
  · cases h
/-! ### results that lie in a variable -/
theorem ResOne.cell {a : Tmp} {t T : TypeId} {i b off : Nat} {cells : List Value} {v : Value} (hs : St A w F L) (hL : L[i]? = some (.box b cells T)) (ht : Plain P t)
    (hx : σ a = .pointer (some ⟨b, off, none⟩)) (hv : cells[off]? = some v) : ResOne P σ w (.cell a t) v := by
  obtain ⟨u, hu, hp⟩ := ht
  have hc : w.cell? ⟨b, off, none⟩ = some v := by rw [cell_of (hs.box hL)]; simpa using hv
  exact ⟨_, hx, by simp only [loadVar, Sem.run_bind, run_isAgg_of hu hp, Result.andThen_ok, Bool.false_eq_true, if_false, run_load_cell hc]⟩
theorem ResOne.cells {a : Tmp} {t T : TypeId} {i b off s : Nat} {cells vs : List Value} (hs : St A w F L) (hL : L[i]? = some (.box b cells T)) (ht : Aggr P t) (hsz : SizeIs P t s)
    (hx : σ a = .pointer (some ⟨b, off, none⟩)) (hv : (cells.drop off).take s = vs) (hl : vs.length = s) : ResOne P σ w (.cell a t) (.agg vs.toArray) := by
  obtain ⟨u, hu, hp⟩ := ht
  have hc := run_loadCells_of (P := P) (w := w) (b := b) (off := off) vs (fun j hj => by
    rw [cell_of (hs.box hL)]
    subst hv
    rw [List.length_take] at hj
    simp [List.getElem?_take, List.getElem?_drop]
    omega)
  rw [hl] at hc
  exact ⟨_, hx, by simp only [loadVar, Sem.run_bind, run_isAgg_of hu hp, Result.andThen_ok, if_true, run_sizeOf_of hsz, hc, Sem.run_pure]⟩
theorem new_of (hs : St A w F L) {w0 : World} {i : Nat} (hF : F[i]? = some (.old (fun _ => False) w0)) : ∀ b, ¬ A b → New w0 b := by
  obtain ⟨h1, h2⟩ := hs.fact i hF
  intro b hb
  rcases Nat.lt_or_ge b w0.heap.size with h | h
  · exact absurd (h2 b h (fun h => h)).1 hb
  · exact h
theorem St.dropAt (hs : St A w F L) {i : Nat} {m : Mob} (hi : L[i]? = some m) : St A w F (L.eraseIdx i) := (hs.front hi).dropM
theorem St.sameHeap (hs : St A w F L) {w' : World} (h : w'.heap = w.heap) (hg : Gr w w') : St A w' F L :=
  hs.keep ⟨fun b _ => by rw [h], hg⟩
theorem cast_world {w0 : World} {p : World → Prop} (hw : w = w0) (h : p w) : p w0 := hw ▸ h
theorem gne_ne {T : Type} {k : IntKind} [GI T k] {a b : T} (h : gne a b = true) (hb : GI.toZ b = 0 := by rfl) : GI.toZ a ≠ 0 := by
  simp [gne] at h; rw [hb] at h; exact h
theorem gge_le {a : Int} (h : gge a 0 = true) : 0 ≤ GI.toZ a := by simp [gge] at h; exact h
theorem wrap_u8 {n : Int} (h : 0 ≤ n) (h' : n < 256) : IntKind.u8.wrap n = n := by
  simp only [IntKind.wrap, IntKind.bits, IntKind.signed, Bool.false_and, Bool.false_eq_true, if_false]
  exact Int.emod_eq_of_lt h h'
theorem wrap_u32 {n : Int} (h : 0 ≤ n) (h' : n < 4294967296) : IntKind.u32.wrap n = n := by
  simp only [IntKind.wrap, IntKind.bits, IntKind.signed, Bool.false_and, Bool.false_eq_true, if_false]
  exact Int.emod_eq_of_lt h h'
theorem wrap_u64 {n : Int} (h : 0 ≤ n) (h' : n < 18446744073709551616) : IntKind.u64.wrap n = n := by
  simp only [IntKind.wrap, IntKind.bits, IntKind.signed, Bool.false_and, Bool.false_eq_true, if_false]
  exact Int.emod_eq_of_lt h h'
theorem Bin.rem_i64 {t : TypeId} (a b : Int) (h : GI.toZ b ≠ 0) : BinOk P .rem t (iv a) (iv b) (iv (irem a b)) := fun _ _ w => by
  have h' : b ≠ 0 := h
  simp [eqGuard, binOp, Op.intDiv, irem, iv, GI.toZ, h']
theorem tmod_lt {a b : Int} {m : Int} (ha : 0 ≤ a) (h : a < m) : 0 ≤ a.tmod b ∧ a.tmod b < m := by
  have h1 := Int.tmod_nonneg b ha
  have h2 := Int.natAbs_tmod a b
  have h3 := Nat.mod_le a.natAbs b.natAbs
  omega
theorem Bin.rem_u8 {t : TypeId} (a b : UInt8) (h : GI.toZ b ≠ 0) : BinOk P .rem t (iv a) (iv b) (iv (grem a b)) := fun _ _ w => by
  have h1 : (0 : Int) ≤ GI.toZ a := Int.natCast_nonneg _
  have h2 : (GI.toZ a : Int) < 256 := by have := a.toNat_lt; show ((a.toNat : Nat) : Int) < 256; omega
  obtain ⟨h3, h4⟩ := tmod_lt (b := GI.toZ b) h1 h2
  simp [eqGuard, binOp, Op.intDiv, grem, ← ofZ_val, h, wrap_u8 h3 h4]
theorem Bin.rem_u32 {t : TypeId} (a b : UInt32) (h : GI.toZ b ≠ 0) : BinOk P .rem t (iv a) (iv b) (iv (grem a b)) := fun _ _ w => by
  have h1 : (0 : Int) ≤ GI.toZ a := Int.natCast_nonneg _
  have h2 : (GI.toZ a : Int) < 4294967296 := by have := a.toNat_lt; show ((a.toNat : Nat) : Int) < 4294967296; omega
  obtain ⟨h3, h4⟩ := tmod_lt (b := GI.toZ b) h1 h2
  simp [eqGuard, binOp, Op.intDiv, grem, ← ofZ_val, h, wrap_u32 h3 h4]
theorem Bin.rem_u64 {t : TypeId} (a b : UInt64) (h : GI.toZ b ≠ 0) : BinOk P .rem t (iv a) (iv b) (iv (grem a b)) := fun _ _ w => by
  have h1 : (0 : Int) ≤ GI.toZ a := Int.natCast_nonneg _
  have h2 : (GI.toZ a : Int) < 18446744073709551616 := by have := a.toNat_lt; show ((a.toNat : Nat) : Int) < 18446744073709551616; omega
  obtain ⟨h3, h4⟩ := tmod_lt (b := GI.toZ b) h1 h2
  simp [eqGuard, binOp, Op.intDiv, grem, ← ofZ_val, h, wrap_u64 h3 h4]
section
variable {T' : Type} {k' : IntKind} [GI T' k']
theorem Bin.shr_i64 {t : TypeId} (a : Int) (b : T') (h : 0 ≤ GI.toZ b) : BinOk P .shr t (iv a) (iv b) (iv (ishr a (GI.toZ b).toNat)) := fun _ _ w => by
  have : ¬ GI.toZ b < 0 := by omega
  simp [eqGuard, binOp, Op.shift, ishr, iv, GI.toZ, this, IntKind.bits]
theorem fdiv_lt {a m : Int} {q : Nat} (ha : 0 ≤ a) (h : a < m) : 0 ≤ a.fdiv (2 ^ q) ∧ a.fdiv (2 ^ q) < m := by
  have hp : (0 : Int) < 2 ^ q := Int.pow_pos (by decide)
  rw [Int.fdiv_eq_ediv_of_nonneg _ (by omega)]
  have h1 := Int.ediv_nonneg ha (Int.le_of_lt hp)
  have h2 := Int.ediv_le_self (2 ^ q) ha
  omega
theorem Bin.shr_u8 {t : TypeId} (a : UInt8) (b : T') (h : 0 ≤ GI.toZ b) : BinOk P .shr t (iv a) (iv b) (iv (gshr a (GI.toZ b).toNat)) := by
  have h1 : (0 : Int) ≤ GI.toZ a := Int.natCast_nonneg _
  have h2 : (GI.toZ a : Int) < 256 := by have := a.toNat_lt; show ((a.toNat : Nat) : Int) < 256; omega
  obtain ⟨h3, h4⟩ := fdiv_lt (q := min (GI.toZ b).toNat IntKind.u8.bits) h1 h2
  exact Bin.shr a b h (wrap_u8 h3 h4)
theorem Bin.shr_u32 {t : TypeId} (a : UInt32) (b : T') (h : 0 ≤ GI.toZ b) : BinOk P .shr t (iv a) (iv b) (iv (gshr a (GI.toZ b).toNat)) := by
  have h1 : (0 : Int) ≤ GI.toZ a := Int.natCast_nonneg _
  have h2 : (GI.toZ a : Int) < 4294967296 := by have := a.toNat_lt; show ((a.toNat : Nat) : Int) < 4294967296; omega
  obtain ⟨h3, h4⟩ := fdiv_lt (q := min (GI.toZ b).toNat IntKind.u32.bits) h1 h2
  exact Bin.shr a b h (wrap_u32 h3 h4)
theorem Bin.shr_u64 {t : TypeId} (a : UInt64) (b : T') (h : 0 ≤ GI.toZ b) : BinOk P .shr t (iv a) (iv b) (iv (gshr a (GI.toZ b).toNat)) := by
  have h1 : (0 : Int) ≤ GI.toZ a := Int.natCast_nonneg _
  have h2 : (GI.toZ a : Int) < 18446744073709551616 := by have := a.toNat_lt; show ((a.toNat : Nat) : Int) < 18446744073709551616; omega
  obtain ⟨h3, h4⟩ := fdiv_lt (q := min (GI.toZ b).toNat IntKind.u64.bits) h1 h2
  exact Bin.shr a b h (wrap_u64 h3 h4)
theorem wrap_i32 {n : Int} (h : -2147483648 ≤ n) (h' : n < 2147483648) : IntKind.i32.wrap n = n := by
  simp only [IntKind.wrap, IntKind.bits, IntKind.signed, Bool.true_and]
  change (if decide (n % 4294967296 ≥ 2147483648) = true then n % 4294967296 - 4294967296 else n % 4294967296) = n
  by_cases hn : n % 4294967296 ≥ 2147483648
  · rw [if_pos (by simpa using hn)]; omega
  · rw [if_neg (by simpa using hn)]; omega
theorem fdiv_in {a m : Int} {q : Nat} (h0 : -m ≤ a) (h : a < m) (hm : 0 < m) : -m ≤ a.fdiv (2 ^ q) ∧ a.fdiv (2 ^ q) < m := by
  have hp : (0 : Int) < 2 ^ q := Int.pow_pos (by decide)
  rw [Int.fdiv_eq_ediv_of_nonneg _ (by omega)]
  generalize (2 : Int) ^ q = p at hp
  refine ⟨?_, ?_⟩
  · rw [Int.le_ediv_iff_mul_le hp]
    have : m * 1 ≤ m * p := Int.mul_le_mul_of_nonneg_left (by omega) (by omega)
    rw [Int.neg_mul]; omega
  · rw [Int.ediv_lt_iff_lt_mul hp]
    have : m * 1 ≤ m * p := Int.mul_le_mul_of_nonneg_left (by omega) (by omega)
    omega
theorem i32_range (a : Int32) : -2147483648 ≤ GI.toZ a ∧ GI.toZ a < 2147483648 := by
  have h1 := a.le_toInt; have h2 := a.toInt_lt
  exact ⟨h1, h2⟩
theorem Bin.shr_i32 {t : TypeId} (a : Int32) (b : T') (h : 0 ≤ GI.toZ b) : BinOk P .shr t (iv a) (iv b) (iv (gshr a (GI.toZ b).toNat)) := by
  obtain ⟨h1, h2⟩ := i32_range a
  obtain ⟨h3, h4⟩ := fdiv_in (q := min (GI.toZ b).toNat IntKind.i32.bits) h1 h2 (by decide)
  exact Bin.shr a b h (wrap_i32 h3 h4)
end
end Go.Lv
