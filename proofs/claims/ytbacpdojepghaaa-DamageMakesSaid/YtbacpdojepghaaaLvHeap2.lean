/- Fields, places, cuts. -/
import Derived.Test.YtbacpdojepghaaaLvHeap
set_option linter.unusedVariables false
set_option linter.unusedSimpArgs false
namespace Go.Lv
variable {P : Program} {n : Nat} {ops : Array Oper} {rest : List Oper} {K : Env → World → Prop} {σ : Env} {w : World}
variable {d : Nat} {ty : TypeId} {pos : String} {after : Array Edge} {A : Reg} {F : List Fact} {L : List Mob}

/-! ### addresses -/
/-- Field number f of the struct type t lies k cells on, and has a size. -/
def FieldAt (P : Program) (t : TypeId) (f k : Nat) : Prop := ∃ fs fd i, P.underlying t = some (.struct fs) ∧ fs[f]? = some fd ∧ fd.offset = k ∧ P.info? fd.type = some i ∧ i.size ≠ 0
theorem run_fieldAt {t : TypeId} {f k b off : Nat} (h : FieldAt P t f k) : (Instr.fieldAt t (.pointer (some ⟨b, off, none⟩)) f).run P w = .ok (.pointer (some ⟨b, off + k, none⟩)) w := by
  obtain ⟨fs, fd, i, h1, h2, h3, h4, h5⟩ := h
  have h6 := run_sizeOf_of (P := P) ⟨i, h4, rfl⟩ w
  simp only [Instr.fieldAt, Sem.run_bind, run_underlying h1, Result.andThen_ok, h2, Instr.sureAddr, Sem.run_pure, fieldPlace, h6, h5, if_false, add_off, h3]
theorem X.fieldAddr {t : TypeId} {x : Operand} {f k b off off' : Nat} (hf : FieldAt P t f k) (hx : ev σ x = .pointer (some ⟨b, off, none⟩)) (ho : off + k = off') :
    XO P σ w (.fieldAddr t x f) (.pointer (some ⟨b, off', none⟩)) := fun _ _ _ _ _ => by
  simp only [execOp, hx, Sem.run_bind, run_fieldAt hf, Result.andThen_ok, Sem.run_pure, ho]
/-- A field of a struct value. -/
theorem X.field {t u : TypeId} {x : Operand} {f k s : Nat} {cells : List Value} {v : Value} (hf : ∃ fs fd, P.underlying t = some (.struct fs) ∧ fs[f]? = some fd ∧ fd.offset = k ∧ fd.type = u)
    (hu : (Plain P u ∧ cells[k]? = some v) ∨ (Aggr P u ∧ SizeIs P u s ∧ .agg ((cells.drop k).take s).toArray = v)) (hx : ev σ x = .agg cells.toArray) : XO P σ w (.field t x f) v := fun _ _ _ _ _ => by
  obtain ⟨fs, fd, h1, h2, rfl, rfl⟩ := hf
  rcases hu with ⟨⟨u, hu, hp⟩, hv⟩ | ⟨⟨u, hu, hp⟩, hsz, hv⟩
  · simp only [execOp, hx, Instr.field, Sem.run_bind, run_underlying h1, Result.andThen_ok, h2, asAgg, Sem.run_pure, part, run_isAgg_of hu hp, Bool.false_eq_true, if_false]
    simp [hv]
  · simp only [execOp, hx, Instr.field, Sem.run_bind, run_underlying h1, Result.andThen_ok, h2, asAgg, Sem.run_pure, part, run_isAgg_of hu hp, if_true, run_sizeOf_of hsz]
    rw [← hv]
    simp [List.extract_eq_take_drop]

/-! ### slices that are only read -/
theorem X.len_rd {x : Operand} {t e : TypeId} {R : Reg} {s j m : Nat} {v : Value} {cs : List Value} (ht : P.underlying t = some (.slice e)) (hs : St A w F L) (hF : F[j]? = some (.rd R s v cs))
    (hl : cs.length = m * s) (hp : 0 < s) (hx : ev σ x = v) : XO P σ w (.call ⟨.builtin .len, #[x], #[t]⟩) (iv (m : Int)) := by
  obtain ⟨p, len, cap, rfl, h2, _⟩ := hs.fact j hF
  have : len = m := Nat.eq_of_mul_eq_mul_right hp (h2.symm.trans hl)
  subst this
  exact X.len_slice ht hx
theorem X.len_own {x : Operand} {t e E : TypeId} {s j m : Nat} {v : Value} {cs : List Value} (ht : P.underlying t = some (.slice e)) (hs : St A w F L) (hL : L[j]? = some (.own s E v cs))
    (hl : cs.length = m * s) (hp : 0 < s) (hx : ev σ x = v) : XO P σ w (.call ⟨.builtin .len, #[x], #[t]⟩) (iv (m : Int)) := by
  obtain ⟨o, p, len, cap, rfl, h2, _⟩ := Mobs.mem (A := A) hs.mobs hL
  have : len = m := Nat.eq_of_mul_eq_mul_right hp (h2.symm.trans hl)
  subst this
  exact X.len_slice ht hx
/-- A pointer to cells that are only read. -/
def Fact.ptr (R : Reg) (pv : Value) (cs : List Value) : Fact where
  holds A w := ∃ b off arr T fr, pv = .pointer (some ⟨b, off, none⟩) ∧ (A b ∧ R b) ∧ w.heap[b]? = some (.cells arr T fr) ∧ ∀ i, i < cs.length → arr[off + i]? = cs[i]?
  step := by
    rintro A A' w w' ⟨b, off, arr, T, fr, h1, ⟨h2, h3⟩, h4, h5⟩ ha hs _
    exact ⟨b, off, arr, T, fr, h1, ⟨ha _ h2, h3⟩, (hs _ h2).trans h4, h5⟩
theorem X.index_rd {t e : TypeId} {R : Reg} {s j m i : Nat} {v : Value} {cs : List Value} (ht : P.underlying t = some (.slice e)) (hsz : SizeIs P e s) (hs : St A w F L) (hF : F[j]? = some (.rd R s v cs))
    (hl : cs.length = m * s) (hp : 0 < s) (hi : i < m) :
    ∃ pv, (∀ (σ : Env) (w : World) (x ix : Operand), ev σ x = v → ev σ ix = iv (i : Int) → XO P σ w (.indexAddr t x ix) pv) ∧ St A w (.ptr R pv ((cs.drop (i * s)).take s) :: F) L := by
  obtain ⟨p, len, cap, rfl, h2, h3, h4, h5⟩ := hs.fact j hF
  have hlen : len = m := Nat.eq_of_mul_eq_mul_right hp (h2.symm.trans hl)
  subst hlen
  obtain ⟨b, off, arr, T, fr, rfl, hA, hb, hc, he⟩ := h5 (by omega)
  refine ⟨.pointer (some ⟨b, off + i * s, none⟩), fun σ w x ix hx hix _ _ _ _ _ => ?_, hs.addF ⟨b, off + i * s, arr, T, fr, rfl, hA, hb, fun k hk => ?_⟩⟩
  · have h6 : (0 : Int) ≤ i ∧ (i : Int) < len := by omega
    simp only [execOp, hx, hix, iv, GI.toZ, Instr.indexAt, Sem.run_bind, asIntOf, Sem.run_pure, Result.andThen_ok, run_underlying ht, h6, and_self, if_true, run_sizeOf_of hsz, add_off, Int.toNat_natCast]
  · have hk' : k < s := by rw [List.length_take] at hk; omega
    have hle : (i + 1) * s ≤ len * s := Nat.mul_le_mul_right s hi
    rw [Nat.succ_mul] at hle
    rw [Nat.add_assoc, he (i * s + k) (by omega)]
    simp [List.getElem?_take, List.getElem?_drop, hk']
theorem X.load_ptr {x : Operand} {t : TypeId} {R : Reg} {j : Nat} {pv v : Value} {cs : List Value} (hs : St A w F L) (hF : F[j]? = some (.ptr R pv cs)) (ht : Plain P t)
    (hx : ev σ x = pv) (hv : cs[0]? = some v) : XO P σ w (.load t x) v := fun _ _ _ _ _ => by
  obtain ⟨u, hu, hp⟩ := ht
  obtain ⟨b, off, arr, T, fr, rfl, _, hb, he⟩ := hs.fact j hF
  have hc : w.cell? ⟨b, off, none⟩ = some v := by rw [cell_of hb, ← hv]; exact he 0 (List.getElem?_eq_some_iff.1 hv).1
  simp only [execOp, hx, Instr.loadAt, Instr.sureAddr, Sem.run_bind, Sem.run_pure, Result.andThen_ok, loadVar, run_isAgg_of hu hp, Bool.false_eq_true, if_false, run_load_cell hc]
theorem X.load_ptrs {x : Operand} {t : TypeId} {R : Reg} {j s : Nat} {pv : Value} {cs : List Value} (hs : St A w F L) (hF : F[j]? = some (.ptr R pv cs)) (ht : Aggr P t) (hsz : SizeIs P t s)
    (hx : ev σ x = pv) (hl : cs.length = s) : XO P σ w (.load t x) (.agg cs.toArray) := fun _ _ _ _ _ => by
  obtain ⟨u, hu, hp⟩ := ht
  obtain ⟨b, off, arr, T, fr, rfl, _, hb, he⟩ := hs.fact j hF
  have hc := run_loadCells_of (P := P) (w := w) (b := b) (off := off) cs (fun k hk => by rw [cell_of hb]; exact he k hk)
  rw [hl] at hc
  simp only [execOp, hx, Instr.loadAt, Instr.sureAddr, Sem.run_bind, Sem.run_pure, Result.andThen_ok, loadVar, run_isAgg_of hu hp, if_true, run_sizeOf_of hsz, hc]
theorem X.field_ptr {t : TypeId} {R : Reg} {f k j : Nat} {pv : Value} {cs : List Value} (hs : St A w F L) (hF : F[j]? = some (.ptr R pv cs)) (hf : FieldAt P t f k) :
    ∃ pv', (∀ (σ : Env) (w : World) (x : Operand), ev σ x = pv → XO P σ w (.fieldAddr t x f) pv') ∧ St A w (.ptr R pv' (cs.drop k) :: F) L := by
  obtain ⟨b, off, arr, T, fr, rfl, hA, hb, he⟩ := hs.fact j hF
  refine ⟨.pointer (some ⟨b, off + k, none⟩), fun σ w x hx _ _ _ _ _ => ?_, hs.addF ⟨b, off + k, arr, T, fr, rfl, hA, hb, fun i hi => ?_⟩⟩
  · simp only [execOp, hx, Sem.run_bind, run_fieldAt hf, Result.andThen_ok, Sem.run_pure]
  · rw [List.length_drop] at hi
    rw [Nat.add_assoc, he (k + i) (by omega), List.getElem?_drop]

/-- Cutting a slice. -/
def loV (lo : Option Int) : Int := lo.getD 0
theorem run_slice {t e : TypeId} {s len cap lo hi : Nat} {p : Option Addr} {vlo vhi : Option Value} (ht : P.underlying t = some (.slice e)) (hsz : SizeIs P e s) (h1 : lo ≤ hi) (h2 : hi ≤ len) (h3 : len ≤ cap)
    (hlo : vlo = some (.int .i64 lo) ∨ (vlo = none ∧ lo = 0)) (hhi : vhi = some (.int .i64 hi) ∨ (vhi = none ∧ hi = len)) :
    (Instr.slice t (.slice p len cap) vlo vhi none).run P w = .ok (.slice (if cap = lo then p else p.map (·.add (lo * s))) (hi - lo) (cap - lo)) w := by
  have e4 : hi ≤ cap := by omega
  rcases hlo with rfl | ⟨rfl, rfl⟩ <;> rcases hhi with rfl | ⟨rfl, rfl⟩ <;>
    simp [Instr.slice, run_underlying ht, Instr.sliceBounds, Instr.sliceBound, asIntOf, run_sizeOf_of hsz, h1, e4]
  all_goals (try (intro h; omega))
theorem X.slice_rd {t e : TypeId} {R : Reg} {s j m l k : Nat} {v : Value} {cs : List Value} (ht : P.underlying t = some (.slice e)) (hsz : SizeIs P e s) (hs : St A w F L)
    (hF : F[j]? = some (.rd R s v cs)) (hl : cs.length = m * s) (hp : 0 < s) (hlk : l ≤ k) (hkm : k ≤ m) :
    ∃ p' l' c', (∀ (σ : Env) (w : World) (x : Operand) (lo hi : Option Operand), ev σ x = v → (lo.map (ev σ) = some (iv (l : Int)) ∨ (lo = none ∧ l = 0)) → (hi.map (ev σ) = some (iv (k : Int)) ∨ (hi = none ∧ k = m)) → XO P σ w (.slice t x lo hi none) (.slice p' l' c')) ∧ St A w (.rd R s (.slice p' l' c') ((cs.take (k * s)).drop (l * s)) :: F) L := by
  obtain ⟨p, len, cap, rfl, h2, h3, h4, h5⟩ := hs.fact j hF
  have hlen : len = m := Nat.eq_of_mul_eq_mul_right hp (h2.symm.trans hl)
  subst hlen
  have e1 : l * s ≤ k * s := Nat.mul_le_mul_right s hlk
  have e2 : k * s ≤ len * s := Nat.mul_le_mul_right s hkm
  have e3 : (k - l) * s = k * s - l * s := Nat.sub_mul k l s
  have e9 : k - l ≤ cap - l := by omega
  have e10 : l * s + (cap - l) * s = cap * s := by
    rw [Nat.sub_mul]
    have := Nat.mul_le_mul_right s (show l ≤ cap by omega)
    omega
  refine ⟨(if cap = l then p else p.map (·.add (l * s))), k - l, cap - l, fun σ w x lo hi hx hlo hhi _ _ _ _ _ => ?_, hs.addF ⟨_, _, _, rfl, ?_, e9, ?_, fun hc => ?_⟩⟩
  · have hr := run_slice (P := P) (w := w) (p := p) (vlo := lo.map (ev σ)) (vhi := hi.map (ev σ)) ht hsz hlk hkm h3 (by rcases hlo with h | ⟨h, h'⟩; exact .inl h; exact .inr ⟨by rw [h]; rfl, h'⟩)
      (by rcases hhi with h | ⟨h, h'⟩; exact .inl h; exact .inr ⟨by rw [h]; rfl, h'⟩)
    simp only [execOp, hx, Instr.sliceAt, Sem.run_bind, run_underlying ht, Result.andThen_ok, Option.map_none, hr, Sem.run_pure]
  · rw [List.length_drop, List.length_take, e3]; omega
  · intro hp
    by_cases hcl : cap = l
    · omega
    · rw [if_neg hcl] at hp
      cases p with
      | none => have := h4 rfl; omega
      | some a => simp at hp
  · rw [if_neg (by omega)]
    obtain ⟨b, off, arr, T, fr, rfl, hA, hb, hc', he⟩ := h5 (by omega)
    refine ⟨b, off + l * s, arr, T, fr, by simp [add_off], hA, hb, ?_, fun i hi => ?_⟩
    · rw [Nat.add_assoc, e10]; assumption
    · rw [Nat.add_assoc, he (l * s + i) (by omega), List.getElem?_drop, List.getElem?_take]
      rw [if_pos (by omega)]
end Go.Lv
