/- Appending, freezing, slices that are built. -/
import Derived.Test.YtbacpdojepghaaaLvApp
set_option linter.unusedVariables false
set_option linter.unusedSimpArgs false
namespace Go.Lv
variable {P : Program} {n : Nat} {ops : Array Oper} {rest : List Oper} {K : Env → World → Prop} {σ : Env} {w : World}
variable {d : Nat} {ty : TypeId} {pos : String} {after : Array Edge} {A : Reg} {F : List Fact} {L : List Mob}

theorem WL.append {x y : Operand} {t t2 e : TypeId} {s i lx ly : Nat} {vx vy : Value} {cs ys : List Value} {L' : Option Addr → Nat → Nat → List Mob} (ht : P.underlying t = some (.slice e)) (ht2 : ∃ e2, P.underlying t2 = some (.slice e2)) (he : ElemOk P e s)
    (hs : St A w F L) (hL : L[i]? = some (.own s e vx cs)) (hd : Nat.blt d n = true) (hx : ev σ x = vx) (hy : ev σ y = vy) (hyr : Rd (fun _ => True) w s vy ys) (h1 : ys.all (·.oneCell') = true)
    (hlx : cs.length = lx * s) (hly : ys.length = ly * s) (hlim : lx + ly ≤ LIM) (hL' : ∀ p l c, L.set i (.own s e (.slice p l c) (cs ++ ys)) = L' p l c) (h : ∀ p l c w', St A w' F (L' p l c) → WL P n ops rest K (upd σ d (.slice p l c)) w') :
    WL P n ops (⟨some d, .call ⟨.builtin .append, #[x, y], #[t, t2]⟩, ty, pos, after, none⟩ :: rest) K σ w := by
  obtain ⟨v', w', hr, hs'⟩ := append_own (P := P) (ty := ty) (x := x) (y := y) ht ht2 he hs hL hyr h1 hlx hly hlim
  obtain ⟨p, l, c, rfl⟩ : ∃ p l c, v' = .slice p l c := by
    have hlt : i < L.length := (List.getElem?_eq_some_iff.1 hL).1
    obtain ⟨o, ho⟩ := Mobs.mem (A := A) hs'.mobs (show (L.set i (.own s e v' (cs ++ ys)))[i]? = some (.own s e v' (cs ++ ys)) by simp [hlt])
    obtain ⟨p, l, c, h, _⟩ := ho; exact ⟨p, l, c, h⟩
  refine .val rfl rfl hd (v := .slice p l c) (w' := w') ?_ (h p l c w' (hL' p l c ▸ hs'))
  simp [execOp, resolve, invoke, builtin, hx, hy, hr]
/-- A slice that nobody writes any more is only read from now on. -/
theorem St.freeze (hs : St A w F L) {i s : Nat} {E : TypeId} {v : Value} {cs : List Value} {L' : List Mob} (hL : L[i]? = some (.own s E v cs)) (hL' : L.eraseIdx i = L') (R : Reg) (hR : ∀ b, ¬ A b → R b) :
    ∃ A', (∀ b, A b → A' b) ∧ St A' w (.rd R s v cs :: F) L' := by
  subst hL'
  obtain ⟨o, ho, h3, h4⟩ := (hs.front hL).mobs
  have hrd := Go.Lv.own_rd ho
  refine ⟨fun b => A b ∨ o = some b, fun _ h => .inl h, fun b hb => hb.elim (hs.lt b) (fun h => (h3 b h).2), fun f hf => ?_, h4⟩
  cases hf with
  | head => exact hrd.step (fun b hb => ⟨.inr hb, hR b (h3 b hb).1⟩) (fun _ _ => rfl)
  | tail _ hf => exact f.step (hs.facts f hf) (fun _ h => .inl h) (fun _ _ => rfl) (.refl _)
/-- An empty slice owns nothing. -/
theorem St.addNil (hs : St A w F L) (s : Nat) (E : TypeId) : St A w F (.own s E (.slice none 0 0) [] :: L) :=
  ⟨hs.lt, hs.facts, none, ⟨none, 0, 0, rfl, by simp, Nat.le_refl _, fun _ => rfl, fun _ => rfl, fun b hb => by cases hb⟩, (fun b hb => by cases hb), hs.mobs.anti (fun b hb => hb.elim id (fun h => by cases h))⟩
theorem St.nilRd (hs : St A w F L) (s : Nat) (R : Reg) : St A w (.rd R s (.slice none 0 0) [] :: F) L := hs.addF Rd.nil
theorem St.addRd (hs : St A w F L) {R : Reg} {s : Nat} {v : Value} {cs : List Value} (h : Rd (fun b => A b ∧ R b) w s v cs) : St A w (.rd R s v cs :: F) L := hs.addF h

theorem splice_nil (acc : List Value) (off : Nat) : splice acc off [] = acc := by simp [splice]
theorem fold_splice (off : Nat) : ∀ (cs : List Value) (j : Nat) (acc : List Value), off + j + cs.length ≤ acc.length →
    (cs.zipIdx j).foldl (fun (a : Array Value) (p : Value × Nat) => a.setIfInBounds (off + p.2) p.1) acc.toArray = (splice acc (off + j) cs).toArray
  | [], j, acc, _ => by simp [splice_nil]
  | c :: cs, j, acc, h => by
    simp only [List.length_cons] at h
    simp only [List.zipIdx_cons, List.foldl_cons]
    rw [List.setIfInBounds_toArray]
    have := fold_splice off cs (j + 1) (acc.set (off + j) c) (by simp; omega)
    rw [this, ← Nat.add_assoc, splice_cons (by simp; omega)]
theorem fill_gen (s : Nat) : ∀ (vs : List Value) (k : Nat) (acc : List Value), (∀ v ∈ vs, v.cells.size = s) → acc.length = (k + vs.length) * s →
    Instr.fill (fun i => some (i * s, s)) acc.toArray ((vs.zipIdx k).map fun p => (p.2, p.1)) = some (acc.take (k * s) ++ (vs.map (·.cells.toList)).flatten).toArray
  | [], k, acc, _, hl => by
    have : acc.take (k * s) = acc := List.take_of_length_le (by simp at hl; omega)
    simp [Instr.fill, this]
  | v :: vs, k, acc, hv, hl => by
    have h1 := hv v (.head _)
    have hl' : acc.length = k * s + s + vs.length * s := by rw [hl, List.length_cons, Nat.add_mul, Nat.add_mul]; omega
    have hf := fold_splice (k * s) v.cells.toList 0 acc (by simp; omega)
    have hfold : v.cells.zipIdx.foldl (fun cs (x : Value × Nat) => cs.setIfInBounds (k * s + x.2) x.1) acc.toArray = (splice acc (k * s) v.cells.toList).toArray := by
      rw [← Array.foldl_toList, Array.toList_zipIdx]; simpa using hf
    have hrec := fill_gen s vs (k + 1) (splice acc (k * s) v.cells.toList) (fun u hu => hv u (.tail _ hu)) (by rw [splice_length (by simp; omega), hl, List.length_cons]; congr 1; omega)
    simp only [List.zipIdx_cons, List.map_cons, Instr.fill]
    have hc : (decide (v.cells.size ≠ s) || decide (k * s + v.cells.size > acc.toArray.size)) = false := by simp; omega
    rw [if_neg (by rw [hc]; simp)]
    show Instr.fill _ (v.cells.zipIdx.foldl (fun cs (x : Value × Nat) => cs.setIfInBounds (k * s + x.2) x.1) acc.toArray) _ = _
    rw [hfold, hrec]
    congr 2
    have e1 : (k + 1) * s = k * s + v.cells.toList.length := by rw [Nat.succ_mul]; simp [h1]
    rw [e1, List.flatten_cons, ← List.append_assoc]
    congr 1
    simp only [splice]
    rw [← List.append_assoc, List.take_append_of_le_length (by simp; omega), List.take_of_length_le (by simp; omega)]
theorem zeros_len (z : Array Value) (m : Nat) : ∃ zs : List Value, ((Array.range m).map fun x => z[x % z.size]!) = zs.toArray ∧ zs.length = m :=
  ⟨((Array.range m).map fun x => z[x % z.size]!).toList, by rw [Array.toArray_toList], by simp⟩
/-- A slice written out. -/
theorem WL.buildSlice {t e : TypeId} {len s : Nat} {parts : List (Nat × Operand)} {vs cells : List Value} (ht : P.underlying t = some (.slice e)) (he : ElemOk P e s) (hs : St A w F L) (hd : Nat.blt d n = true)
    (hp : (parts.map fun p => (p.1, ev σ p.2)) = (vs.zipIdx 0).map fun p => (p.2, p.1)) (hl : vs.length = len) (hlen : Nat.ble (len * s) 4096 = true) (h1 : ∀ v ∈ vs, v.cells.size = s)
    (hcells : (vs.map (·.cells.toList)).flatten = cells)
    (h : ∀ p l c w', St A w' F (.own s e (.slice p l c) cells :: L) → WL P n ops rest K (upd σ d (.slice p l c)) w') :
    WL P n ops (⟨some d, .buildSlice t len parts.toArray, ty, pos, after, none⟩ :: rest) K σ w := by
  subst hl
  have hlen' : vs.length * s ≤ 4096 := by simpa using hlen
  obtain ⟨ti, z, hi, hsz, hz, hzs, hby⟩ := he.ok
  have hcl : cells.length = vs.length * s := by
    rw [← hcells]
    clear hp h hcells hlen hlen'
    induction vs with
    | nil => simp
    | cons v vs ih =>
      simp only [List.map_cons, List.flatten_cons, List.length_append, List.length_cons, Array.length_toList]
      rw [ih (fun u hu => h1 u (.tail _ hu)), h1 v (.head _), Nat.succ_mul]; omega
  have hrun : (newRow e cells.toArray).run P w = .ok ⟨w.heap.size, 0, none⟩ (newBlk w (.cells cells.toArray e)) := rfl
  have hfz : ∀ z0 : Array Value, Instr.fill (fun i => some (i * s, s)) (Array.map (fun x => z0[x % z0.size]!) (Array.range (vs.length * s))) ((vs.zipIdx 0).map fun p => (p.2, p.1)) = some cells.toArray := fun z0 => by
    obtain ⟨zs, hzs1, hzs2⟩ := zeros_len z0 (vs.length * s)
    have hf := fill_gen s vs 0 zs h1 (by rw [hzs2]; simp)
    simp only [Nat.zero_mul, List.take_zero, List.nil_append, hcells] at hf
    rw [hzs1, hf]
  have hzv : (zeroValue e).run P w = .ok z w := by simp [zeroValue, typeInfo, hi, hz]
  refine .val rfl rfl hd (v := .slice (some ⟨w.heap.size, 0, none⟩) vs.length vs.length) (w' := newBlk w (.cells cells.toArray e)) ?_ (h _ _ _ _ (hs.newMob _ _ ⟨_, vs.length, vs.length, rfl, hcl, Nat.le_refl _, by simp, by simp, fun b hb => ?_⟩))
  · simp only [execOp, Instr.buildSlice, Sem.run_bind, run_underlying ht, Result.andThen_ok, run_sizeOf_of he.size]
    rw [if_neg (by omega)]
    have hp2 : (Array.map (fun (x : Nat × Operand) => (x.1, ev σ x.2)) parts.toArray).toList = (vs.zipIdx 0).map fun p => (p.2, p.1) := by rw [List.map_toArray, hp]
    rw [hp2]
    split <;> simp only [Sem.run_bind, Sem.run_pure, hzv, Result.andThen_ok, hfz, hrun]
  · cases hb
    exact ⟨cells.toArray, (0, 0), rfl, newBlk_new _ _, by simpa using hcl, .inl (Nat.le_refl _), fun i hi => by simp⟩
end Go.Lv
