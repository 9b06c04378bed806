/- Boxes. -/
import Derived.Test.YtbacpdojepghaaaLvOps
set_option linter.unusedVariables false
set_option linter.unusedSimpArgs false
namespace Go.Lv
variable {P : Program} {n : Nat} {ops : Array Oper} {rest : List Oper} {K : Env → World → Prop} {σ : Env} {w : World}
variable {d : Nat} {ty : TypeId} {pos : String} {after : Array Edge} {A : Reg} {F : List Fact} {L : List Mob}

/-! ### the types' facts that the operations ask -/
/-- Not a struct, not an array: one cell. -/
def aggB : TypeDesc → Bool
  | .struct _ | .array _ _ => true
  | _ => false
def Plain (P : Program) (t : TypeId) : Prop := ∃ u, P.underlying t = some u ∧ aggB u = false
def Aggr (P : Program) (t : TypeId) : Prop := ∃ u, P.underlying t = some u ∧ aggB u = true
def SizeIs (P : Program) (t : TypeId) (s : Nat) : Prop := ∃ i, P.info? t = some i ∧ i.size = s
theorem run_isAgg_of {t : TypeId} {u : TypeDesc} {b : Bool} (h : P.underlying t = some u) (hb : aggB u = b) (w : World) : (isAgg t).run P w = .ok b w := by
  unfold isAgg
  rw [Sem.run_bind, run_underlying h, Result.andThen_ok]
  subst hb
  cases u <;> rfl
theorem run_sizeOf_of {t : TypeId} {s : Nat} (h : SizeIs P t s) (w : World) : (sizeOf t).run P w = .ok s w := by
  obtain ⟨i, hi, rfl⟩ := h
  simp [sizeOf, typeInfo, hi]

/-! ### cells -/
theorem cell_of {b off : Nat} {arr : Array Value} {T : TypeId} {fr : Nat × Nat} (h : w.heap[b]? = some (.cells arr T fr)) : w.cell? ⟨b, off, none⟩ = arr[off]? := by
  simp [World.cell?, h]
theorem run_load_cell {b off : Nat} {v : Value} (h : w.cell? ⟨b, off, none⟩ = some v) : (load ⟨b, off, none⟩).run P w = .ok v w := by
  simp [load, Sem.run, h]
theorem add_off (b off k : Nat) : (⟨b, off, none⟩ : Addr).add k = ⟨b, off + k, none⟩ := by
  unfold Addr.add; split <;> simp_all
theorem run_loadCells_of {b off : Nat} (cs : List Value) (h : ∀ i, i < cs.length → w.cell? ⟨b, off + i, none⟩ = cs[i]?) : (loadCells ⟨b, off, none⟩ cs.length).run P w = .ok cs.toArray w :=
  run_loadCells_list (P := P) (w := w) ⟨b, off, none⟩ cs (fun j v hj => by
    have hlt : j < cs.length := (List.getElem?_eq_some_iff.1 hj).1
    rw [add_off, h j hlt, hj])

/-! ### the state and its blocks -/
theorem Mobs.mem {A : Reg} : ∀ {L : List Mob} {A : Reg} {m : Mob} {i : Nat}, Mobs w A L → L[i]? = some m → ∃ o, m.holds o w
  | [], _, _, _, _, h => by simp at h
  | _ :: _, _, _, 0, ⟨o, h1, _, _⟩, h => ⟨o, by simp at h; exact h ▸ h1⟩
  | _ :: _, _, _, _ + 1, ⟨_, _, _, h3⟩, h => Mobs.mem (A := A) h3 (by simpa using h)
theorem St.box (hs : St A w F L) {i b : Nat} {cells : List Value} {T : TypeId} (hL : L[i]? = some (.box b cells T)) : w.heap[b]? = some (.cells cells.toArray T (0, 0)) := by
  obtain ⟨o, h1, h2⟩ := Mobs.mem (A := A) hs.mobs hL
  exact h2
/-- The world with one block changed. -/
def setBlk (w : World) (b : Nat) (o : Obj) : World := { w with heap := w.heap.setIfInBounds b o }
theorem St.setBox (hs : St A w F L) {i b : Nat} {cells cells' : List Value} {T : TypeId} (hL : L[i]? = some (.box b cells T)) :
    St A (setBlk w b (.cells cells'.toArray T (0, 0))) F (L.set i (.box b cells' T)) := by
  have hb := lt_of_heap (hs.box hL)
  have h1 := hs.front hL
  refine St.back hL ?_
  obtain ⟨o, ⟨rfl, _⟩, h3, h4⟩ := h1.mobs
  have hsz : (setBlk w b (.cells cells'.toArray T (0, 0))).heap.size = w.heap.size := by simp [setBlk]
  have hne : ∀ c, c ≠ b → (setBlk w b (.cells cells'.toArray T (0, 0))).heap[c]? = w.heap[c]? := fun c hc => by
    simp [setBlk, Array.getElem?_setIfInBounds_ne (Ne.symm hc)]
  have hnA := (h3 b rfl).1
  refine ⟨fun c hc => by rw [hsz]; exact hs.lt c hc, fun f hf => f.step (hs.facts f hf) (fun _ h => h) (fun c hc => hne c (fun e => hnA (e ▸ hc))) ⟨by rw [hsz]; exact Nat.le_refl _, rfl, rfl, rfl⟩, some b, ⟨rfl, ?_⟩, fun c hc => ⟨(h3 c hc).1, by rw [hsz]; exact (h3 c hc).2⟩, ?_⟩
  · simp [setBlk, hb]
  · refine h4.step (by rw [hsz]; exact Nat.le_refl _) (fun c _ hc => hne c (fun e => hc (.inr (by rw [e]))))
/-- A new block. -/
def newBlk (w : World) (o : Obj) : World := { w with heap := w.heap.push o }
theorem newBlk_size (w : World) (o : Obj) : (newBlk w o).heap.size = w.heap.size + 1 := by simp only [newBlk, Array.size_push]
theorem newBlk_old {w : World} {o : Obj} {b : Nat} (hb : b < w.heap.size) : (newBlk w o).heap[b]? = w.heap[b]? := by
  simp only [newBlk]; rw [Array.getElem?_push_lt hb, Array.getElem?_eq_getElem hb]
theorem newBlk_new (w : World) (o : Obj) : (newBlk w o).heap[w.heap.size]? = some o := by
  simp only [newBlk, Array.getElem?_push_size]
theorem newBlk_keep (w : World) (o : Obj) : Keep w (newBlk w o) := ⟨fun b hb => newBlk_old hb, by rw [newBlk_size]; omega, rfl, rfl, rfl⟩
theorem St.newMob (hs : St A w F L) (o : Obj) (m : Mob) (hm : m.holds (some w.heap.size) (newBlk w o)) : St A (newBlk w o) F (m :: L) := by
  have hk := newBlk_keep w o
  have h1 := hs.keep hk
  refine ⟨h1.lt, h1.facts, some w.heap.size, hm, fun b hb => ⟨fun h => ?_, ?_⟩, ?_⟩
  · cases hb; exact Nat.lt_irrefl _ (hs.lt _ h)
  · cases hb; rw [newBlk_size]; omega
  · refine (hs.mobs.lt.step hk.le fun b hb _ => hk.same b hb).anti ?_
    rintro b (h | h)
    · exact .inl h
    · cases h; exact .inr (Nat.le_refl _)
theorem St.newBox (hs : St A w F L) (cells : List Value) (T : TypeId) : St A (newBlk w (.cells cells.toArray T)) F (.box w.heap.size cells T :: L) :=
  hs.newMob _ _ ⟨rfl, newBlk_new _ _⟩
theorem Fact.old_of (hs : St A w F L) {M : Reg} {w0 : World} {i : Nat} (hF : F[i]? = some (.old M w0)) : (Fact.old M w0).holds A w := hs.fact i hF

/-! ### loads and stores of variables of one's own -/
theorem X.load_box {x : Operand} {t T : TypeId} {i b off : Nat} {cells : List Value} {v : Value} (hs : St A w F L) (hL : L[i]? = some (.box b cells T)) (ht : Plain P t)
    (hx : ev σ x = .pointer (some ⟨b, off, none⟩)) (hv : cells[off]? = some v) : XO P σ w (.load t x) v := fun _ _ _ _ _ => by
  obtain ⟨u, hu, hp⟩ := ht
  have hc : w.cell? ⟨b, off, none⟩ = some v := by rw [cell_of (hs.box hL)]; simpa using hv
  simp only [execOp, hx, Instr.loadAt, Instr.sureAddr, Sem.run_bind, Sem.run_pure, Result.andThen_ok, loadVar, run_isAgg_of hu hp, Bool.false_eq_true, if_false, run_load_cell hc]
theorem X.load_boxs {x : Operand} {t T : TypeId} {i b off s : Nat} {cells vs : List Value} (hs : St A w F L) (hL : L[i]? = some (.box b cells T)) (ht : Aggr P t) (hsz : SizeIs P t s)
    (hx : ev σ x = .pointer (some ⟨b, off, none⟩)) (hv : (cells.drop off).take s = vs) (hl : vs.length = s) : XO P σ w (.load t x) (.agg vs.toArray) := fun _ _ _ _ _ => by
  obtain ⟨u, hu, hp⟩ := ht
  have hc := run_loadCells_of (P := P) (w := w) (b := b) (off := off) vs (fun j hj => by
    rw [cell_of (hs.box hL)]
    subst hv
    rw [List.length_take] at hj
    simp [List.getElem?_take, List.getElem?_drop]
    omega)
  rw [hl] at hc
  simp only [execOp, hx, Instr.loadAt, Instr.sureAddr, Sem.run_bind, Sem.run_pure, Result.andThen_ok, loadVar, run_isAgg_of hu hp, if_true, run_sizeOf_of hsz, hc]

def splice (cells : List Value) (off : Nat) (vs : List Value) : List Value := cells.take off ++ (vs ++ cells.drop (off + vs.length))
theorem splice_length {cells : List Value} {off : Nat} {vs : List Value} (h : off + vs.length ≤ cells.length) : (splice cells off vs).length = cells.length := by
  simp [splice]; omega
theorem splice_cons {cells : List Value} {off : Nat} {v : Value} {vs : List Value} (h : off + (v :: vs).length ≤ cells.length) :
    splice (cells.set off v) (off + 1) vs = splice cells off (v :: vs) := by
  simp at h
  have e1 : (cells.set off v).take (off + 1) = cells.take off ++ [v] := by
    rw [List.take_succ_eq_append_getElem (by simp; omega)]
    have e0 : (cells.set off v).take off = cells.take off := by
      apply List.ext_getElem?
      intro i
      rw [List.getElem?_take, List.getElem?_take]
      by_cases hi : i < off
      · rw [if_pos hi, if_pos hi, List.getElem?_set_ne (by omega)]
      · rw [if_neg hi, if_neg hi]
    rw [e0]
    simp
  have e2 : (cells.set off v).drop (off + 1 + vs.length) = cells.drop (off + (v :: vs).length) := by
    rw [List.drop_set_of_lt (by omega)]
    simp [Nat.add_comm, Nat.add_left_comm]
  simp only [splice, e1, e2, List.append_assoc, List.cons_append, List.nil_append]
/-- A store of a row of cells into a block that is known whole. -/
theorem run_storeCells_blk (b : Nat) (T : TypeId) (fr : Nat × Nat) : ∀ (vs : List Value) (off : Nat) (i : Nat) (cells : List Value) (w : World), w.heap[b]? = some (.cells cells.toArray T fr) →
    off + i + vs.length ≤ cells.length → (fr.2 ≤ off + i ∨ cells.length ≤ fr.1 ∨ fr.2 ≤ fr.1) → (∀ v ∈ vs, v.oneCell' = true) →
    (storeCells ⟨b, off, none⟩ vs i).run P w = .ok () (setBlk w b (.cells (splice cells (off + i) vs).toArray T fr))
  | [], off, i, cells, w, h, hl, hf, h1 => by
    have hb := lt_of_heap h
    have : setBlk w b (.cells (splice cells (off + i) []).toArray T fr) = w := by
      have e : splice cells (off + i) [] = cells := by simp [splice]
      rw [e]
      cases w with
      | mk heap tape drawn os output =>
        simp only [setBlk, World.mk.injEq, and_true, true_and]
        apply Array.ext_getElem?
        intro j
        by_cases hj : j = b
        · subst hj; simp at hb h ⊢; rw [Array.getElem?_setIfInBounds_self_of_lt hb]; exact h.symm
        · simp [Array.getElem?_setIfInBounds_ne (Ne.symm hj)]
    rw [this]; rfl
  | v :: vs, off, i, cells, w, h, hl, hf, h1 => by
    have hb := lt_of_heap h
    have hlt : off + i < cells.length := by simp at hl; omega
    unfold storeCells
    rw [Sem.run_bind, run_store P w _ v _ (h1 v (.head _)), add_off]
    have hc : w.cell? ⟨b, off + i, none⟩ = some cells[off + i] := by rw [cell_of h]; simp [hlt]
    have hfz : w.frozen? ⟨b, off + i, none⟩ = false := by
      simp only [World.frozen?, h]
      simp
      omega
    rw [hc]
    simp only [hfz, Bool.false_eq_true, if_false, Result.andThen_ok]
    have hw : w.setCell ⟨b, off + i, none⟩ v = setBlk w b (.cells (cells.set (off + i) v).toArray T fr) := by
      simp only [World.setCell, setBlk, World.mk.injEq, and_true, true_and]
      apply Array.ext_getElem?
      intro j
      rw [Array.getElem?_modify]
      by_cases hj : j = b
      · subst hj; simp only [if_true, h]; rw [Array.getElem?_setIfInBounds_self_of_lt hb]; simp
      · rw [if_neg (Ne.symm hj), Array.getElem?_setIfInBounds_ne (Ne.symm hj)]
    rw [hw]
    have hr := run_storeCells_blk b T fr vs off (i + 1) (cells.set (off + i) v) (setBlk w b (.cells (cells.set (off + i) v).toArray T fr)) (by simp [setBlk, hb])
      (by simp at hl ⊢; omega) (by simp; omega) (fun u hu => h1 u (.tail _ hu))
    rw [hr]
    have hsp : splice (cells.set (off + i) v) (off + (i + 1)) vs = splice cells (off + i) (v :: vs) := by
      rw [← Nat.add_assoc]; exact splice_cons (by simpa using hl)
    rw [hsp]
    congr 1
    simp [setBlk]
theorem WL.store_box {a x : Operand} {t T : TypeId} {i b off s : Nat} {cells cells' vs : List Value} {v : Value} {L' : List Mob} (hs : St A w F L) (hL : L[i]? = some (.box b cells T)) (hsz : SizeIs P t s)
    (ha : ev σ a = .pointer (some ⟨b, off, none⟩)) (hx : ev σ x = v) (hv : v.cells = vs.toArray) (hl : vs.length = s) (h1 : vs.all (·.oneCell') = true) (hle : Nat.ble (off + s) cells.length = true)
    (hc : splice cells off vs = cells') (hL' : L.set i (.box b cells' T) = L') (h : ∀ w', St A w' F L' → WL P n ops rest K σ w') :
    WL P n ops (⟨none, .store t a x, ty, pos, after, none⟩ :: rest) K σ w := by
  have hle' : off + s ≤ cells.length := by simpa using hle
  have hr := run_storeCells_blk (P := P) b T (0, 0) vs off 0 cells w (hs.box hL) (by omega) (.inr (.inr (Nat.le_refl _))) (fun v hv => by simpa using List.all_eq_true.1 h1 v hv)
  simp only [Nat.add_zero, hc] at hr
  refine .unit rfl rfl (w' := setBlk w b (.cells cells'.toArray T (0, 0))) ?_ (h _ (hL' ▸ hs.setBox hL))
  simp [execOp, ha, hx, Instr.storeAt, Instr.sureAddr, storeVar, run_sizeOf_of hsz, hv, hl, hr]
theorem run_newVar (e : TypeId) (v : Value) (cells : List Value) (hv : v.cells = cells.toArray) : (newVar e v).run P w = .ok ⟨w.heap.size, 0, none⟩ (newBlk w (.cells cells.toArray e)) := by
  unfold newVar; rw [hv]; rfl
theorem WL.box {x : Operand} {e : TypeId} {v : Value} {cells : List Value} (hs : St A w F L) (hd : Nat.blt d n = true) (hx : ev σ x = v) (hv : v.cells = cells.toArray)
    (h : ∀ b w', St A w' F (.box b cells e :: L) → WL P n ops rest K (upd σ d (.pointer (some ⟨b, 0, none⟩))) w') :
    WL P n ops (⟨some d, .box e x, ty, pos, after, none⟩ :: rest) K σ w := by
  refine .val rfl rfl hd (w' := newBlk w (.cells cells.toArray e)) (v := .pointer (some ⟨w.heap.size, 0, none⟩)) ?_ (h _ _ (hs.newBox cells e))
  simp only [execOp, hx, Instr.box, Sem.run_bind, run_newVar e v cells hv, Result.andThen_ok, Sem.run_pure]
theorem WL.alloc {e : TypeId} {z : Value} {cells : List Value} (hs : St A w F L) (hd : Nat.blt d n = true) (hz : ∃ i, P.info? e = some i ∧ i.zero = some z) (hv : z.cells = cells.toArray)
    (h : ∀ b w', St A w' F (.box b cells e :: L) → WL P n ops rest K (upd σ d (.pointer (some ⟨b, 0, none⟩))) w') :
    WL P n ops (⟨some d, .alloc e, ty, pos, after, none⟩ :: rest) K σ w := by
  obtain ⟨i, hi, hz⟩ := hz
  have hz' : (zeroValue e).run P w = .ok z w := by simp [zeroValue, typeInfo, hi, hz]
  refine .val rfl rfl hd (w' := newBlk w (.cells cells.toArray e)) (v := .pointer (some ⟨w.heap.size, 0, none⟩)) ?_ (h _ _ (hs.newBox cells e))
  simp only [execOp, Instr.alloc, Sem.run_bind, hz', run_newVar e z cells hv, Result.andThen_ok, Sem.run_pure]
end Go.Lv
