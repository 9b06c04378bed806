/- A part of the proof of a statement of this seat (see the text that ends in Proof): LvBase, LvMem, LvPure, LvVal, LvOps, LvHeap, LvHeap2, LvApp, LvAppZ, LvApp2, LvCall, LvMore, LvDraw, LvAux, LvGen, LvNil, LvBuild, LvNorm, LvRow. No conditions of its own. -/
import Derived.Tactics
import Derived.OrdersHeld
import Derived.Below
import GoSem.Core.View
import Derived.Laws.Entries
import Derived.Laws.Strings
import Derived.Laws.Append
import Derived.Laws.IdiomStrings
import Derived.StillTail
import Derived.WalkKit
import Derived.OpenShut
namespace Go.Lv

abbrev Env := Nat → Value
/-- The environment with one slot set. -/
def upd (σ : Env) (d : Nat) (v : Value) : Env := fun t => match Nat.beq t d with | true => v | false => σ t
def ev (σ : Env) : Operand → Value
  | .tmp t => σ t
  | .const v => v
  | .global g => .pointer (some ⟨g, 0, none⟩)
  | .func f => .func (.func f) #[] #[]

structure Fits (n : Nat) (a : Act) (σ : Env) : Prop where
  size : a.tmps.size = n
  defers : a.defers = []
  get : ∀ t, a.tmps.getD t undef = σ t

theorem Fits.eval {n : Nat} {a : Act} {σ : Env} (h : Fits n a σ) : a.eval = ev σ := by
  funext x; cases x <;> simp only [Act.eval, ev, h.get]

theorem upd_same (σ : Env) (d : Nat) (v : Value) : upd σ d v d = v := by simp [upd]
theorem upd_ne (σ : Env) {d t : Nat} (v : Value) (h : t ≠ d) : upd σ d v t = σ t := by
  unfold upd
  have : Nat.beq t d = false := by
    cases hb : Nat.beq t d with
    | false => rfl
    | true => exact absurd (Nat.eq_of_beq_eq_true hb) h
  rw [this]

theorem Fits.put {n : Nat} {a : Act} {σ : Env} (h : Fits n a σ) {d : Nat} (hd : Nat.blt d n = true) (v : Value) : Fits n (a.put (some d) v) (upd σ d v) := by
  have hd' : d < n := by simpa [Nat.blt_eq] using hd
  refine ⟨by simp [Act.put, h.size], h.defers, fun t => ?_⟩
  by_cases ht : t = d
  · subst ht
    rw [upd_same]
    simp [Act.put, Array.getD, h.size, hd']
  · rw [upd_ne _ _ ht, ← h.get t]
    simp [Act.put, Array.getD_eq_getD_getElem?, Array.getElem?_setIfInBounds_ne (Ne.symm ht)]
theorem Fits.put_none {n : Nat} {a : Act} {σ : Env} (h : Fits n a σ) (v : Value) : Fits n (a.put none v) σ := h

variable {P : Program} {n : Nat}

/-- A piece of code, from an environment and a world. -/
def W (P : Program) (n : Nat) (c : Code) (Q : Exit → Env → World → Prop) (σ : Env) (w : World) : Prop :=
  ∀ a, Fits n a σ → c.wp P (fun e a' w' => ∃ σ', Fits n a' σ' ∧ Q e σ' w') a w

def Then (K : Env → World → Prop) (Q : Exit → Env → World → Prop) : Exit → Env → World → Prop
  | .normal, σ, w => K σ w
  | e, σ, w => Q e σ w
def InBlock (id : Nat) (Q : Exit → Env → World → Prop) : Exit → Env → World → Prop
  | .exit id', σ, w => if id' = id then Q .normal σ w else Q (.exit id') σ w
  | e, σ, w => Q e σ w

variable {Q : Exit → Env → World → Prop} {σ : Env} {w : World}

theorem W.mono {c : Code} {Q' : Exit → Env → World → Prop} (h : W P n c Q σ w) (hq : ∀ e σ w, Q e σ w → Q' e σ w) : W P n c Q' σ w :=
  fun a ha => wp_mono (h a ha) fun _ _ _ ⟨σ', hf, hh⟩ => ⟨σ', hf, hq _ _ _ hh⟩
theorem W.seq {x y : Code} (h : W P n x (Then (W P n y Q) Q) σ w) : W P n (.seq x y) Q σ w := by
  intro a ha
  refine wp_seq (wp_mono (h a ha) ?_)
  rintro e a' w' ⟨σ', hf, hh⟩
  cases e <;> first | exact hh a' hf | exact ⟨σ', hf, hh⟩
/-- Sequence with a cut in the middle. -/
theorem W.seqJ {x y : Code} (J : Env → World → Prop) (h : W P n x (Then J Q) σ w) (h2 : ∀ σ w, J σ w → W P n y Q σ w) : W P n (.seq x y) Q σ w := by
  refine W.seq (W.mono h ?_)
  intro e σ' w' hh
  cases e <;> first | exact h2 _ _ hh | exact hh
theorem W.skip (h : Q .normal σ w) : W P n .skip Q σ w := fun _ ha => wp_skip ⟨σ, ha, h⟩
theorem W.ret (h : Q .ret σ w) : W P n .ret Q σ w := fun _ ha => wp_ret ⟨σ, ha, h⟩
theorem W.exit {id : Nat} (h : Q (.exit id) σ w) : W P n (.exit id) Q σ w := fun _ ha => wp_exit ⟨σ, ha, h⟩
theorem W.block {id : Nat} {c : Code} (h : W P n c (InBlock id Q) σ w) : W P n (.block id c) Q σ w := by
  intro a ha
  refine wp_block (wp_mono (h a ha) ?_)
  rintro e a' w' ⟨σ', hf, hh⟩
  cases e with
  | exit id' =>
    simp only [InBlock] at hh
    simp only [Exit.inBlock]
    split
    · rename_i he; simp only [he, if_true] at hh; exact ⟨σ', hf, hh⟩
    · rename_i he; simp only [he, if_false] at hh; exact ⟨σ', hf, hh⟩
  | _ => exact ⟨σ', hf, hh⟩
theorem W.cond {c : Operand} {x y : Code} {t : Bool} (hc : ev σ c = .bool t) (ht : t = true → W P n x Q σ w) (hf : t = false → W P n y Q σ w) :
    W P n (.cond c x y) Q σ w := by
  intro a ha
  exact wp_cond_split (by rw [ha.eval]; exact hc) (fun h => ht h a ha) (fun h => hf h a ha)
theorem W.loop {c : Code} (I : Nat → Env → World → Prop) (m : Nat) (h0 : I m σ w)
    (round : ∀ k σ w, I k σ w → W P n c (Then (fun σ' w' => ∃ j, j < k ∧ I j σ' w') Q) σ w) : W P n (.loop c) Q σ w := by
  intro a ha b k cs
  have key : ∀ m σ w a, I m σ w → Fits n a σ →
      ∃ e a' w', (∃ σ', Fits n a' σ' ∧ Q e σ' w') ∧ Arrives P (lone (b.at a (.code c :: .inLoop c :: k)) cs w) b k cs e a' w' := by
    intro m
    induction m using Nat.strongRecOn with
    | _ m ih =>
      intro σ w a hI ha
      obtain ⟨e, a₁, w₁, ⟨σ₁, hf, hq⟩, harr⟩ := round m σ w hI a ha b (.inLoop c :: k) cs
      cases e with
      | normal =>
        obtain ⟨j, hlt, hI₁⟩ := hq
        obtain ⟨e₂, a₂, w₂, hq₂, harr₂⟩ := ih j hlt σ₁ w₁ a₁ hI₁ hf
        exact ⟨e₂, a₂, w₂, hq₂, .of_steps (Steps.trans harr (.one step_inLoop)) harr₂⟩
      | exit id => exact ⟨_, a₁, w₁, ⟨σ₁, hf, hq⟩, .pass (x := .inLoop c) rfl (fun _ _ => .inl (by simp)) harr⟩
      | goto l => exact ⟨_, a₁, w₁, ⟨σ₁, hf, hq⟩, .pass (x := .inLoop c) rfl (fun _ _ => .inl (by simp)) harr⟩
      | ret => exact ⟨_, a₁, w₁, ⟨σ₁, hf, hq⟩, .pass (x := .inLoop c) rfl (fun _ _ => .inl (by simp)) harr⟩
      | panic ch => exact ⟨_, a₁, w₁, ⟨σ₁, hf, hq⟩, .pass (x := .inLoop c) rfl (fun _ _ => .inl (by simp)) harr⟩
      | outgrown => exact ⟨_, a₁, w₁, ⟨σ₁, hf, hq⟩, .pass (x := .inLoop c) rfl (fun _ _ => .inl (by simp)) harr⟩
  obtain ⟨e, a', w', hq, harr⟩ := key m σ w a h0 ha
  exact ⟨e, a', w', hq, .of_steps (.one step_loop) harr⟩


/-! ### lists of operations -/
theorem Oper.wp_cut {o : Oper} {a : Act} {w : World} {next next' : Act → World → Prop} {Z : Act → World → Prop} {R : Exit → Act → World → Prop}
    (h : o.wp P a w next (fun e a w => e = Exit.normal ∧ Z a w)) (hn : ∀ a w, next a w → next' a w) : o.wp P a w next' R := by
  unfold Oper.wp at *
  generalize (execOp a.eval o).run P w = r at *
  cases r with
  | ok x w' =>
    cases x <;> simp only [Oper.upon] at h ⊢ <;> first
      | exact hn _ _ h
      | exact Rows.mono h fun _ _ hh => hn _ _ hh
      | skip
    refine Calls.mono h ?_
    intro e w'' hh
    cases e with
    | returned v => exact hn _ _ hh
    | panicked c => exact absurd hh.1 (by simp)
    | outgrown => obtain ⟨_, _, hh, _⟩ := hh; exact absurd hh (by simp)
  | halt x w' =>
    cases x <;> simp only [Oper.upon] at h ⊢
    exact absurd h.1 (by simp)

theorem wpList_cut {ops : Array Oper} {Z : Act → World → Prop} {R : Exit → Act → World → Prop} {l : List Oper} (h2 : ∀ a w, Z a w → wpList P ops R l a w) :
    ∀ (l1 : List Oper) (a : Act) (w : World), wpList P ops (fun e a w => e = Exit.normal ∧ Z a w) l1 a w → wpList P ops R (l1 ++ l) a w := by
  intro l1
  induction l1 with
  | nil => intro a w h; exact h2 _ _ h.2
  | cons o l1 ih =>
    intro a w h
    simp only [wpList, List.cons_append] at h ⊢
    split
    · rename_i hw
      rw [if_pos hw] at h
      rcases h with h | ⟨_, _, _, hh, _⟩
      · exact .inl (Oper.wp_cut h ih)
      · exact absurd hh (by simp)
    · rename_i hw
      rw [if_neg hw] at h
      exact ih _ _ h

/-- A list of operations that does not panic. -/
def WL (P : Program) (n : Nat) (ops : Array Oper) (l : List Oper) (K : Env → World → Prop) (σ : Env) (w : World) : Prop :=
  ∀ a, Fits n a σ → wpList P ops (fun e a' w' => e = Exit.normal ∧ ∃ σ', Fits n a' σ' ∧ K σ' w') l a w

theorem W.region {id : Nat} {l : List Oper} (h : WL P n l.toArray l (fun σ' w' => Q .normal σ' w') σ w) : W P n (.region id l.toArray false) Q σ w := by
  intro a ha
  refine wp_region_lit ?_
  have := wpList_cut (l := []) (R := fun e a' w' => ∃ σ', Fits n a' σ' ∧ Q e σ' w') (Z := fun a' w' => ∃ σ', Fits n a' σ' ∧ Q .normal σ' w') (fun a' w' h => h) l a w (h a ha)
  simpa using this

variable {ops : Array Oper} {rest : List Oper} {K : Env → World → Prop}

theorem WL.nil (h : K σ w) : WL P n ops [] K σ w := fun _ ha => ⟨rfl, σ, ha, h⟩
theorem WL.cut (J : Env → World → Prop) (l1 : List Oper) (h1 : WL P n ops l1 J σ w) (h2 : ∀ σ w, J σ w → WL P n ops rest K σ w) : WL P n ops (l1 ++ rest) K σ w :=
  fun a ha => wpList_cut (fun a' w' ⟨σ', hf, hj⟩ => h2 σ' w' hj a' hf) l1 a w (h1 a ha)

/-- An operation without a guard that yields a value. -/
theorem WL.val {o : Oper} {d : Nat} {v : Value} {w' : World} (hg : o.guard = none) (hd : o.dst = some d) (hdn : Nat.blt d n = true)
    (hx : (execOp (ev σ) o).run P w = .ok (.value v) w') (h : WL P n ops rest K (upd σ d v) w') : WL P n ops (o :: rest) K σ w := by
  intro a ha
  refine wpList_plain hg fun K' hK' => ?_
  unfold Oper.wp
  rw [ha.eval, hx]
  exact hK' _ _ (by rw [hd]; exact h _ (ha.put hdn v))
theorem WL.unit {o : Oper} {w' : World} (hg : o.guard = none) (hd : o.dst = none)
    (hx : (execOp (ev σ) o).run P w = .ok .skip w') (h : WL P n ops rest K σ w') : WL P n ops (o :: rest) K σ w := by
  intro a ha
  refine wpList_plain hg fun K' hK' => ?_
  unfold Oper.wp
  rw [ha.eval, hx]
  exact hK' _ _ (by rw [hd]; exact h _ ha)
theorem WL.enter {o : Oper} {d : Nat} {f : FuncId} {args : Array Value} {w1 : World} {R1 : Ending → World → Prop} (hg : o.guard = none) (hd : o.dst = some d) (hdn : Nat.blt d n = true)
    (hx : (execOp (ev σ) o).run P w = .ok (.enter f args) w1) (hc : Calls P f args w1 R1)
    (hr : ∀ e w', R1 e w' → ∃ r, e = .returned r ∧ WL P n ops rest K (upd σ d r) w') : WL P n ops (o :: rest) K σ w := by
  intro a ha
  refine wpList_plain hg fun K' hK' => ?_
  unfold Oper.wp
  rw [ha.eval, hx]
  simp only [Oper.upon]
  refine hc.mono ?_
  intro e w' h
  obtain ⟨r, rfl, hh⟩ := hr e w' h
  exact hK' _ _ (by rw [hd]; exact hh _ (ha.put hdn r))
theorem yielded_of {a : Act} (ha : Fits n a σ) {j t : Nat} {b : Bool} (hj : (ops[j]?).bind (·.dst) = some t) (hb : σ t = .bool b) : yielded ops a.tmps j = some b := by
  unfold yielded
  rw [hj]
  have h1 := ha.get t
  rw [hb] at h1
  have h2 : a.tmps[t]? = some (.bool b) := by
    cases h : a.tmps[t]? with
    | none => rw [Array.getD_eq_getD_getElem?, h] at h1; simp [undef] at h1
    | some v => rw [Array.getD_eq_getD_getElem?, h] at h1; simpa using h1
  simp [h2]
/-- A guarded operation whose guard does not stand. -/
theorem WL.off {o : Oper} {d j t : Nat} {want b : Bool} (hg : o.guard = some (j, want)) (hj : (ops[j]?).bind (·.dst) = some t) (hb : σ t = .bool b) (hne : (b == want) = false)
    (hd : o.dst = some d) (hdn : Nat.blt d n = true) (h : WL P n ops rest K (upd σ d undef) w) : WL P n ops (o :: rest) K σ w := by
  intro a ha
  refine wpList_step fun K' hK' => ?_
  have hw : Region.wanted o (yielded ops a.tmps) = false := by
    simp only [Region.wanted, hg, yielded_of ha hj hb]
    cases b <;> cases want <;> simp_all
  rw [if_neg (by rw [hw]; simp)]
  exact hK' _ _ (by rw [hd]; exact h _ (ha.put hdn _))
/-- A guarded operation whose guard was not asked itself. -/
theorem WL.offU {o : Oper} {d j t : Nat} {want : Bool} (hg : o.guard = some (j, want)) (hj : (ops[j]?).bind (·.dst) = some t) (hb : σ t = undef)
    (hd : o.dst = some d) (hdn : Nat.blt d n = true) (h : WL P n ops rest K (upd σ d undef) w) : WL P n ops (o :: rest) K σ w := by
  intro a ha
  refine wpList_step fun K' hK' => ?_
  have hy : yielded ops a.tmps j = none := by
    unfold yielded
    rw [hj]
    have h1 := ha.get t
    rw [hb] at h1
    cases h : a.tmps[t]? with
    | none => simp [h]
    | some v =>
      rw [Array.getD_eq_getD_getElem?, h] at h1
      simp at h1
      subst h1
      simp [h, undef]
  have hw : Region.wanted o (yielded ops a.tmps) = false := by
    simp only [Region.wanted, hg, hy]
    cases want <;> rfl
  rw [if_neg (by rw [hw]; simp)]
  exact hK' _ _ (by rw [hd]; exact h _ (ha.put hdn _))
/-- A guarded operation whose guard stands. -/
theorem WL.on {o : Oper} {j t : Nat} {want b : Bool} (hg : o.guard = some (j, want)) (hj : (ops[j]?).bind (·.dst) = some t) (hb : σ t = .bool b) (hne : (b == want) = true)
    (h : WL P n ops (({ o with guard := none } : Oper) :: rest) K σ w) : WL P n ops (o :: rest) K σ w := by
  intro a ha
  have h1 := h a ha
  have hw : Region.wanted o (yielded ops a.tmps) = true := by
    simp only [Region.wanted, hg, yielded_of ha hj hb]
    cases b <;> cases want <;> simp_all
  have hw' : Region.wanted ({ o with guard := none } : Oper) (yielded ops a.tmps) = true := rfl
  unfold wpList at h1 ⊢
  rw [if_pos hw'] at h1
  rw [if_pos hw]
  exact h1
end Go.Lv

set_option linter.unusedVariables false
set_option linter.unusedSimpArgs false
namespace Go.Lv

abbrev Reg := Nat → Prop
def Same (A : Reg) (w w' : World) : Prop := ∀ b, A b → w'.heap[b]? = w.heap[b]?
/-- The world grew at most, and said nothing. -/
structure Gr (w w' : World) : Prop where
  le : w.heap.size ≤ w'.heap.size
  os : w'.os = w.os
  tape : w'.tape = w.tape
  output : w'.output = w.output
theorem Gr.refl (w : World) : Gr w w := ⟨Nat.le_refl _, rfl, rfl, rfl⟩
theorem Gr.trans {a b c : World} (h : Gr a b) (h' : Gr b c) : Gr a c := ⟨Nat.le_trans h.le h'.le, h'.os.trans h.os, h'.tape.trans h.tape, h'.output.trans h.output⟩
/-- Everything that was there is as it was. -/
structure Keep (w w' : World) : Prop where
  same : ∀ b, b < w.heap.size → w'.heap[b]? = w.heap[b]?
  gr : Gr w w'
theorem Keep.le {w w' : World} (h : Keep w w') : w.heap.size ≤ w'.heap.size := h.gr.le
theorem Keep.refl (w : World) : Keep w w := ⟨fun _ _ => rfl, .refl _⟩
theorem Keep.trans {a b c : World} (h : Keep a b) (h' : Keep b c) : Keep a c :=
  ⟨fun i hi => (h'.same i (Nat.lt_of_lt_of_le hi h.le)).trans (h.same i hi), h.gr.trans h'.gr⟩
theorem lt_of_heap {w : World} {b : Nat} {o : Obj} (h : w.heap[b]? = some o) : b < w.heap.size := by
  rcases Nat.lt_or_ge b w.heap.size with h' | h'
  · exact h'
  · rw [Array.getElem?_eq_none h'] at h; cases h

/-- A slice that reads as these cells (s cells to an element), in blocks of a region. -/
def Rd (A : Reg) (w : World) (s : Nat) (v : Value) (cs : List Value) : Prop :=
  ∃ (p : Option Addr) (len cap : Nat), v = .slice p len cap ∧ cs.length = len * s ∧ len ≤ cap ∧ (p = none → cap = 0) ∧
    (0 < cap → ∃ b off arr T fr, p = some ⟨b, off, none⟩ ∧ A b ∧ w.heap[b]? = some (.cells arr T fr) ∧ off + cap * s ≤ arr.size ∧ ∀ i, i < len * s → arr[off + i]? = cs[i]?)
theorem Rd.step {A A' : Reg} {w w' : World} {s : Nat} {v : Value} {cs : List Value} (h : Rd A w s v cs) (ha : ∀ b, A b → A' b) (hs : Same A w w') : Rd A' w' s v cs := by
  obtain ⟨p, len, cap, h1, h2, h3, h4, h5⟩ := h
  refine ⟨p, len, cap, h1, h2, h3, h4, fun hc => ?_⟩
  obtain ⟨b, off, arr, T, fr, e1, e2, e3, e4⟩ := h5 hc
  exact ⟨b, off, arr, T, fr, e1, ha _ e2, (hs b e2).trans e3, e4⟩
theorem Rd.nil {A : Reg} {w : World} {s : Nat} : Rd A w s (.slice none 0 0) [] := ⟨none, 0, 0, rfl, by simp, Nat.le_refl _, fun _ => rfl, fun h => absurd h (by simp)⟩

structure Fact where
  holds : Reg → World → Prop
  step : ∀ {A A' : Reg} {w w' : World}, holds A w → (∀ b, A b → A' b) → Same A w w' → Gr w w' → holds A' w'
/-- A slice that is only read, in blocks of a region of its own as well. -/
def Fact.rd (R : Reg) (s : Nat) (v : Value) (cs : List Value) : Fact where
  holds A w := Rd (fun b => A b ∧ R b) w s v cs
  step h ha hs _ := h.step (fun b ⟨h1, h2⟩ => ⟨ha b h1, h2⟩) (fun b ⟨h1, _⟩ => hs b h1)
/-- A block that is only read. -/
def Fact.box (R : Reg) (b : Nat) (cells : List Value) (T : TypeId) : Fact where
  holds A w := A b ∧ R b ∧ ∃ fr, w.heap[b]? = some (.cells cells.toArray T fr)
  step h ha hs _ := ⟨ha _ h.1, h.2.1, h.2.2.imp fun _ e => (hs _ h.1).trans e⟩
/-- A list of slices. -/
def Fact.rds (R : Reg) (s : Nat) (vs : List Value) (css : List (List Value)) : Fact where
  holds A w := vs.length = css.length ∧ ∀ (i : Nat) (v : Value) (cs : List Value), vs[i]? = some v → css[i]? = some cs → Rd (fun b => A b ∧ R b) w s v cs
  step := fun {A A' w w'} h ha hs _ => ⟨h.1, fun i v cs h1 h2 => (h.2 i v cs h1 h2).step (fun b ⟨h1, h2⟩ => ⟨ha b h1, h2⟩) (fun b ⟨h1, _⟩ => hs b h1)⟩
/-- The frame: what was there when the call began. -/
def Fact.old (M : Reg) (w0 : World) : Fact where
  holds A w := Gr w0 w ∧ ∀ b, b < w0.heap.size → ¬ M b → A b ∧ w.heap[b]? = w0.heap[b]?
  step := fun h ha hs hsz => ⟨h.1.trans hsz, fun b hb hM => ⟨ha b (h.2 b hb hM).1, (hs b (h.2 b hb hM).1).trans (h.2 b hb hM).2⟩⟩

structure Mob where
  holds : Option Nat → World → Prop
  step : ∀ {o : Option Nat} {w w' : World}, holds o w → (∀ b, o = some b → w'.heap[b]? = w.heap[b]?) → holds o w'
def Mob.box (b : Nat) (cells : List Value) (T : TypeId) : Mob where
  holds o w := o = some b ∧ w.heap[b]? = some (.cells cells.toArray T (0, 0))
  step h hs := ⟨h.1, (hs _ h.1).trans h.2⟩
def Mob.own (s : Nat) (E : TypeId) (v : Value) (cs : List Value) : Mob where
  holds o w := ∃ (p : Option Addr) (len cap : Nat), v = .slice p len cap ∧ cs.length = len * s ∧ len ≤ cap ∧ (p = none → cap = 0) ∧
    (o = none → cap = 0) ∧ ∀ b, o = some b → ∃ arr fr, p = some ⟨b, 0, none⟩ ∧ w.heap[b]? = some (.cells arr E fr) ∧ arr.size = cap * s ∧
      (fr.1 = fr.2 ∨ arr.size ≤ fr.1) ∧ ∀ i, i < len * s → arr[i]? = cs[i]?
  step := by
    rintro o w w' ⟨p, len, cap, h1, h2, h3, h4, h5, h6⟩ hs
    refine ⟨p, len, cap, h1, h2, h3, h4, h5, fun b hb => ?_⟩
    obtain ⟨arr, fr, e1, e2, e3⟩ := h6 b hb
    exact ⟨arr, fr, e1, (hs b hb).trans e2, e3⟩

/-- The blocks of the mobs lie outside of a region and apart from each other. -/
def Mobs (w : World) : Reg → List Mob → Prop
  | _, [] => True
  | A, m :: L => ∃ o, m.holds o w ∧ (∀ b, o = some b → ¬ A b ∧ b < w.heap.size) ∧ Mobs w (fun b => A b ∨ o = some b) L

theorem Mobs.anti {w : World} : ∀ {L : List Mob} {A A' : Reg}, Mobs w A L → (∀ b, A' b → A b) → Mobs w A' L
  | [], _, _, _, _ => trivial
  | m :: L, A, A', ⟨o, h1, h2, h3⟩, ha => ⟨o, h1, fun b hb => ⟨fun h => (h2 b hb).1 (ha b h), (h2 b hb).2⟩, h3.anti (fun b hb => hb.imp (ha b) id)⟩
/-- The mobs live on where the world changes only in blocks of a region that they avoid. -/
theorem Mobs.step {w w' : World} (hsz : w.heap.size ≤ w'.heap.size) : ∀ {L : List Mob} {A : Reg}, Mobs w A L → (∀ b, b < w.heap.size → ¬ A b → w'.heap[b]? = w.heap[b]?) → Mobs w' A L
  | [], _, _, _ => trivial
  | m :: L, A, ⟨o, h1, h2, h3⟩, hs => ⟨o, m.step h1 (fun b hb => hs b (h2 b hb).2 (h2 b hb).1), fun b hb => ⟨(h2 b hb).1, Nat.lt_of_lt_of_le (h2 b hb).2 hsz⟩,
      h3.step hsz (fun b hb hA => hs b hb (fun h => hA (.inl h)))⟩
theorem Mobs.lt {w : World} : ∀ {L : List Mob} {A : Reg}, Mobs w A L → Mobs w (fun b => A b ∨ w.heap.size ≤ b) L
  | [], _, _ => trivial
  | m :: L, A, ⟨o, h1, h2, h3⟩ => ⟨o, h1, fun b hb => ⟨fun h => h.elim (h2 b hb).1 (fun h => absurd (h2 b hb).2 (Nat.not_lt.2 h)), (h2 b hb).2⟩,
      h3.lt.anti (fun b hb => by rcases hb with (h | h) | h <;> simp [h])⟩
theorem Mobs.swap {w : World} {A : Reg} {m1 m2 : Mob} {L : List Mob} : Mobs w A (m1 :: m2 :: L) → Mobs w A (m2 :: m1 :: L) := by
  rintro ⟨o1, h1, h2, o2, h3, h4, h5⟩
  refine ⟨o2, h3, fun b hb => ⟨fun h => (h4 b hb).1 (.inl h), (h4 b hb).2⟩, o1, h1, fun b hb => ⟨?_, (h2 b hb).2⟩, h5.anti ?_⟩
  · rintro (h | h)
    · exact (h2 b hb).1 h
    · exact (h4 b h).1 (.inr hb)
  · rintro b ((h | h) | h) <;> simp [h]
theorem Mobs.perm {w : World} {L L' : List Mob} (hp : L.Perm L') : ∀ {A : Reg}, Mobs w A L → Mobs w A L' := by
  induction hp with
  | nil => exact fun h => h
  | cons m _ ih => exact fun ⟨o, h1, h2, h3⟩ => ⟨o, h1, h2, ih h3⟩
  | swap m1 m2 L => exact Mobs.swap
  | trans _ _ ih1 ih2 => exact fun h => ih2 (ih1 h)
theorem Mobs.drop {w : World} {m : Mob} {L : List Mob} {A : Reg} : Mobs w A (m :: L) → Mobs w A L
  | ⟨_, _, _, h3⟩ => h3.anti (fun _ h => .inl h)

/-- The state of memory: facts on a region that nobody writes, and what may be written, apart from it and from each other. -/
structure St (A : Reg) (w : World) (F : List Fact) (L : List Mob) : Prop where
  lt : ∀ b, A b → b < w.heap.size
  facts : ∀ f ∈ F, f.holds A w
  mobs : Mobs w A L

theorem St.fact {A : Reg} {w : World} {F : List Fact} {L : List Mob} (h : St A w F L) (i : Nat) {f : Fact} (hi : F[i]? = some f) : f.holds A w :=
  h.facts f (List.mem_of_getElem? hi)
theorem perm_front {α : Type} {l : List α} {i : Nat} {m : α} (h : l[i]? = some m) : (m :: l.eraseIdx i).Perm l := by
  induction l generalizing i with
  | nil => simp at h
  | cons x l ih =>
    cases i with
    | zero => simp at h; subst h; exact .refl _
    | succ i =>
      simp at h
      exact (List.Perm.swap x m _).trans ((ih h).cons x)
theorem perm_set {α : Type} {l : List α} {i : Nat} {m m' : α} (h : l[i]? = some m) : (m' :: l.eraseIdx i).Perm (l.set i m') := by
  induction l generalizing i with
  | nil => simp at h
  | cons x l ih =>
    cases i with
    | zero => simp
    | succ i =>
      simp at h
      exact (List.Perm.swap x m' _).trans ((ih h).cons x)
/-- Bring mob number i to the front. -/
theorem St.front {A : Reg} {w : World} {F : List Fact} {L : List Mob} (h : St A w F L) {i : Nat} {m : Mob} (hi : L[i]? = some m) : St A w F (m :: L.eraseIdx i) :=
  ⟨h.lt, h.facts, h.mobs.perm (perm_front hi).symm⟩
theorem St.back {A : Reg} {w : World} {F : List Fact} {L : List Mob} {i : Nat} {m m' : Mob} (hi : L[i]? = some m) (h : St A w F (m' :: L.eraseIdx i)) : St A w F (L.set i m') :=
  ⟨h.lt, h.facts, h.mobs.perm (perm_set hi)⟩
theorem St.dropM {A : Reg} {w : World} {F : List Fact} {L : List Mob} {m : Mob} (h : St A w F (m :: L)) : St A w F L := ⟨h.lt, h.facts, h.mobs.drop⟩
theorem St.dropF {A : Reg} {w : World} {F : List Fact} {L : List Mob} {f : Fact} (h : St A w (f :: F) L) : St A w F L := ⟨h.lt, fun g hg => h.facts g (.tail _ hg), h.mobs⟩
theorem St.addF {A : Reg} {w : World} {F : List Fact} {L : List Mob} {f : Fact} (h : St A w F L) (hf : f.holds A w) : St A w (f :: F) L :=
  ⟨h.lt, fun g hg => by cases hg with | head => exact hf | tail _ hg => exact h.facts g hg, h.mobs⟩

/-- A world that only grew. -/
theorem St.keep {A : Reg} {w w' : World} {F : List Fact} {L : List Mob} (h : St A w F L) (hk : Keep w w') : St A w' F L :=
  ⟨fun b hb => Nat.lt_of_lt_of_le (h.lt b hb) hk.le, fun f hf => f.step (h.facts f hf) (fun _ h => h) (fun b hb => hk.same b (h.lt b hb)) hk.gr,
    h.mobs.step hk.le (fun b hb _ => hk.same b hb)⟩
/-- What a call hands back in memory of its own. -/
structure Fr (w w' : World) (F1 : List Fact) (L1 : List Mob) : Prop where
  keep : Keep w w'
  own : ∃ A1 : Reg, (∀ b, A1 b → w.heap.size ≤ b ∧ b < w'.heap.size) ∧ (∀ f ∈ F1, f.holds A1 w') ∧ Mobs w' (fun b => A1 b ∨ b < w.heap.size) L1
theorem Fr.nil {w w' : World} (h : Keep w w') : Fr w w' [] [] := ⟨h, fun _ => False, fun _ h => h.elim, fun _ h => (by cases h), trivial⟩
theorem Mobs.append {w : World} : ∀ {L1 L2 : List Mob} {A : Reg} (B : Reg), (∀ b, B b → b < w.heap.size) → Mobs w (fun b => A b ∨ B b) L1 → Mobs w (fun b => A b ∨ ¬ B b) L2 → Mobs w A (L1 ++ L2)
  | [], L2, A, B, _, _, h2 => h2.anti (fun _ h => .inl h)
  | m :: L1, L2, A, B, hB, ⟨o, h1, h2, h3⟩, h4 => by
    refine ⟨o, h1, fun b hb => ⟨fun h => (h2 b hb).1 (.inl h), (h2 b hb).2⟩, ?_⟩
    refine Mobs.append B hB (h3.anti ?_) (h4.anti ?_)
    · rintro b ((h | h) | h) <;> simp [h]
    · rintro b ((h | h) | h)
      · exact .inl h
      · exact .inr (fun hb => (h2 b h).1 (.inr hb))
      · exact .inr h
theorem St.call {A : Reg} {w w' : World} {F F1 : List Fact} {L L1 : List Mob} (h : St A w F L) (hf : Fr w w' F1 L1) : ∃ A', St A' w' (F1 ++ F) (L1 ++ L) := by
  have hk := h.keep hf.keep
  obtain ⟨A1, h1, h2, h3⟩ := hf.own
  refine ⟨fun b => A b ∨ A1 b, fun b hb => hb.elim (hk.lt b) (fun h => (h1 b h).2), fun f hf' => ?_, ?_⟩
  · rcases List.mem_append.1 hf' with hf' | hf'
    · exact f.step (h2 f hf') (fun _ h => .inr h) (fun _ _ => rfl) (.refl _)
    · exact f.step (hk.facts f hf') (fun _ h => .inl h) (fun _ _ => rfl) (.refl _)
  · refine Mobs.append (fun b => b < w.heap.size) (fun b hb => Nat.lt_of_lt_of_le hb hf.keep.le) (h3.anti ?_) ?_
    · rintro b ((h' | h') | h')
      · exact .inr (h.lt b h')
      · exact .inl h'
      · exact .inr h'
    · refine (h.mobs.lt.step hf.keep.le fun b hb _ => hf.keep.same b hb).anti ?_
      rintro b ((h' | h') | h')
      · exact .inl h'
      · exact .inr (h1 b h').1
      · exact .inr (by simpa using h')
end Go.Lv

set_option linter.unusedVariables false
set_option linter.unusedSimpArgs false
namespace Go.Lv

/-- Lean's types that stand for Go's integers. -/
class GI (T : Type) (k : outParam IntKind) where
  toZ : T → Int
  ofZ : Int → T
  toZ_ofZ : ∀ n, toZ (ofZ n) = k.wrap n

def wrap64 (n : Int) : Int := IntKind.i64.wrap n
theorem wrap64_eq (n : Int) : wrap64 n = if n % 18446744073709551616 ≥ 9223372036854775808 then n % 18446744073709551616 - 18446744073709551616 else n % 18446744073709551616 := by
  unfold wrap64 IntKind.wrap
  simp only [IntKind.bits, IntKind.signed, Bool.true_and]
  change (if decide (n % 18446744073709551616 ≥ 9223372036854775808) = true then n % 18446744073709551616 - 18446744073709551616 else n % 18446744073709551616) = _
  by_cases h : n % 18446744073709551616 ≥ 9223372036854775808 <;> simp [h]
theorem wrap64_id {n : Int} (h : -9223372036854775808 ≤ n) (h' : n ≤ 9223372036854775807) : wrap64 n = n := by
  rw [wrap64_eq]; split <;> omega
/-- Go's int. -/
instance : GI Int .i64 where
  toZ x := x
  ofZ n := wrap64 n
  toZ_ofZ _ := rfl
instance : GI UInt8 .u8 where
  toZ x := (x.toNat : Int)
  ofZ n := UInt8.ofNat (n % 256).toNat
  toZ_ofZ n := by
    simp only [IntKind.wrap, IntKind.bits, IntKind.signed, Bool.false_and, Bool.false_eq_true, if_false, UInt8.toNat_ofNat']
    show ((n % 256).toNat % 256 : Nat) = n % 256
    omega
instance : GI UInt32 .u32 where
  toZ x := (x.toNat : Int)
  ofZ n := UInt32.ofNat (n % 4294967296).toNat
  toZ_ofZ n := by
    simp only [IntKind.wrap, IntKind.bits, IntKind.signed, Bool.false_and, Bool.false_eq_true, if_false, UInt32.toNat_ofNat']
    show ((n % 4294967296).toNat % 4294967296 : Nat) = n % 4294967296
    omega
instance : GI UInt64 .u64 where
  toZ x := (x.toNat : Int)
  ofZ n := UInt64.ofNat (n % 18446744073709551616).toNat
  toZ_ofZ n := by
    simp only [IntKind.wrap, IntKind.bits, IntKind.signed, Bool.false_and, Bool.false_eq_true, if_false, UInt64.toNat_ofNat']
    show ((n % 18446744073709551616).toNat % 18446744073709551616 : Nat) = n % 18446744073709551616
    omega
instance : GI Int32 .i32 where
  toZ x := x.toInt
  ofZ n := Int32.ofInt n
  toZ_ofZ n := by
    rw [Int32.toInt_ofInt, Int.bmod_def]
    simp only [IntKind.wrap, IntKind.bits, IntKind.signed, Bool.true_and]
    change (if n % 4294967296 < (4294967296 + 1) / 2 then n % 4294967296 else n % 4294967296 - 4294967296) = if decide (n % 4294967296 ≥ 2147483648) = true then n % 4294967296 - 4294967296 else n % 4294967296
    by_cases h : n % 4294967296 ≥ 2147483648
    · rw [if_neg (by omega), if_pos (by simpa using h)]
    · rw [if_pos (by omega), if_neg (by simpa using h)]
instance : GI Int8 .i8 where
  toZ x := x.toInt
  ofZ n := Int8.ofInt n
  toZ_ofZ n := by
    rw [Int8.toInt_ofInt, Int.bmod_def]
    simp only [IntKind.wrap, IntKind.bits, IntKind.signed, Bool.true_and]
    change (if n % 256 < (256 + 1) / 2 then n % 256 else n % 256 - 256) = if decide (n % 256 ≥ 128) = true then n % 256 - 256 else n % 256
    by_cases h : n % 256 ≥ 128
    · rw [if_neg (by omega), if_pos (by simpa using h)]
    · rw [if_pos (by omega), if_neg (by simpa using h)]

section
variable {T : Type} {k : IntKind} [GI T k]
open GI
def gadd (a b : T) : T := ofZ (toZ a + toZ b)
def gsub (a b : T) : T := ofZ (toZ a - toZ b)
def gmul (a b : T) : T := ofZ (toZ a * toZ b)
def gquo (a b : T) : T := ofZ ((toZ a).tdiv (toZ b))
def grem (a b : T) : T := ofZ ((toZ a).tmod (toZ b))
def gand (a b : T) : T := ofZ (BitVec.ofInt k.bits (toZ a) &&& BitVec.ofInt k.bits (toZ b)).toNat
def gor (a b : T) : T := ofZ (BitVec.ofInt k.bits (toZ a) ||| BitVec.ofInt k.bits (toZ b)).toNat
def gxor (a b : T) : T := ofZ (BitVec.ofInt k.bits (toZ a) ^^^ BitVec.ofInt k.bits (toZ b)).toNat
def gnot (a : T) : T := ofZ (BitVec.ofInt k.bits (if k.signed then -1 else k.max) ^^^ BitVec.ofInt k.bits (toZ a)).toNat
def gneg (a : T) : T := ofZ (0 - toZ a)
def gshl (a : T) (n : Nat) : T := ofZ (toZ a * 2 ^ (min n k.bits))
def gshr (a : T) (n : Nat) : T := ofZ ((toZ a).fdiv (2 ^ (min n k.bits)))
def geq (a b : T) : Bool := toZ a == toZ b
def gne (a b : T) : Bool := toZ a != toZ b
def glt (a b : T) : Bool := decide (toZ a < toZ b)
def gle (a b : T) : Bool := decide (toZ a ≤ toZ b)
def ggt (a b : T) : Bool := decide (toZ a > toZ b)
def gge (a b : T) : Bool := decide (toZ a ≥ toZ b)
/-- Equality of lists of the same length. -/
def geqL : List T → List T → Bool
  | x :: a, y :: b => geq x y && geqL a b
  | _, _ => true
def gmin (a b : T) : T := if toZ b < toZ a then b else a
def gmax (a b : T) : T := if toZ b > toZ a then b else a
def gconv {T' : Type} {k' : IntKind} [GI T' k'] (a : T) : T' := ofZ (toZ a)
end

/-- Go's remainder, and shift to the right, of an int (they stay in the range). -/
def irem (a b : Int) : Int := a.tmod b
def ishr (a : Int) (n : Nat) : Int := a.fdiv (2 ^ (min n 64))

/-! ### lists -/
def getI {α : Type} (l : List α) (i : Int) : Option α := if 0 ≤ i then l[i.toNat]? else none
def setI {α : Type} (l : List α) (i : Int) (x : α) : Option (List α) := if 0 ≤ i ∧ i < l.length then some (l.set i.toNat x) else none
/-- A slice of a slice (never beyond the length). -/
def cutI {α : Type} (l : List α) (lo hi : Int) : Option (List α) := if 0 ≤ lo ∧ lo ≤ hi ∧ hi ≤ l.length then some ((l.take hi.toNat).drop lo.toNat) else none
/-- How long a slice may become. -/
def LIM : Nat := 2 ^ 34
def appI {α : Type} (l m : List α) : Option (List α) := if l.length + m.length ≤ LIM then some (l ++ m) else none
def mkI {α : Type} (n : Int) (z : α) : Option (List α) := if 0 ≤ n ∧ n ≤ LIM then some (List.replicate n.toNat z) else none
/-- A condition that Go asks, as a step. -/
def okI (b : Bool) : Option Unit := if b = true then some () else none
def lenI {α : Type} (l : List α) : Int := (l.length : Int)
/-- A part of a list. -/
def subL {α : Type} (l : List α) (lo n : Int) : List α := (l.drop lo.toNat).take n.toNat
/-- A part that is asked of a slice. -/
def vwI (m a b : Int) : Option Unit := okI (decide (0 ≤ a ∧ a ≤ b ∧ b ≤ m))
/-- A list with another one laid over it. -/
def copyL {α : Type} (l m : List α) : List α := m.take l.length ++ l.drop m.length
def copyAt {α : Type} (l : List α) (lo n : Int) (m : List α) : List α := l.take lo.toNat ++ (m.take n.toNat ++ l.drop (lo.toNat + (m.take n.toNat).length))
def copyN (n : Int) (m : Nat) : Int := if (m : Int) < n then (m : Int) else n
/-- How often a loop may go round. -/
def FUEL : Nat := 2 ^ 65
/-- How a loop, or a piece of code, is left. -/
inductive Out (σ ρ : Type) where
  | brk (s : σ)
  | ret (r : ρ)
end Go.Lv

set_option linter.unusedVariables false
set_option linter.unusedSimpArgs false
namespace Go.Lv
section
variable {T : Type} {k : IntKind} [GI T k]
/-- An integer as a value. -/
@[reducible] def iv (x : T) : Value := .int k (GI.toZ x)
/-- A string as a value. -/
@[reducible] def sv (l : List UInt8) : Value := .string ⟨l.toArray⟩
variable {P : Program}
/-- What a binary operation yields, whatever the world. -/
def BinOk (P : Program) (b : BinOp) (t : TypeId) (x y v : Value) : Prop :=
  ∀ (ox oy : Operand) (w : World), (do eqGuard b t ox oy x y; binOp b t x y : Sem Value).run P w = .ok v w
theorem ofZ_val (n : Int) : (.int k (k.wrap n) : Value) = iv (GI.ofZ n : T) := by rw [iv, GI.toZ_ofZ]
theorem Bin.add {t : TypeId} (a b : T) : BinOk P .add t (iv a) (iv b) (iv (gadd a b)) := fun _ _ w => by
  simp [eqGuard, binOp, Op.intArith, gadd, ← ofZ_val]
theorem Bin.sub {t : TypeId} (a b : T) : BinOk P .sub t (iv a) (iv b) (iv (gsub a b)) := fun _ _ w => by
  simp [eqGuard, binOp, Op.intArith, gsub, ← ofZ_val]
theorem Bin.mul {t : TypeId} (a b : T) : BinOk P .mul t (iv a) (iv b) (iv (gmul a b)) := fun _ _ w => by
  simp [eqGuard, binOp, Op.intArith, gmul, ← ofZ_val]
theorem Bin.quo {t : TypeId} (a b : T) (h : GI.toZ b ≠ 0) : BinOk P .quo t (iv a) (iv b) (iv (gquo a b)) := fun _ _ w => by
  simp [eqGuard, binOp, Op.intDiv, gquo, ← ofZ_val, h]
theorem Bin.and {t : TypeId} (a b : T) : BinOk P .and t (iv a) (iv b) (iv (gand a b)) := fun _ _ w => by
  simp [eqGuard, binOp, Op.intBits, gand, ← ofZ_val]
theorem Bin.or {t : TypeId} (a b : T) : BinOk P .or t (iv a) (iv b) (iv (gor a b)) := fun _ _ w => by
  simp [eqGuard, binOp, Op.intBits, gor, ← ofZ_val]
theorem Bin.xor {t : TypeId} (a b : T) : BinOk P .xor t (iv a) (iv b) (iv (gxor a b)) := fun _ _ w => by
  simp [eqGuard, binOp, Op.intBits, gxor, ← ofZ_val]
theorem Bin.eql {t : TypeId} (a b : T) : BinOk P .eql t (iv a) (iv b) (.bool (geq a b)) := fun _ _ w => by
  simp [eqGuard, binOp, Op.intCmp, geq]
theorem Bin.neq {t : TypeId} (a b : T) : BinOk P .neq t (iv a) (iv b) (.bool (gne a b)) := fun _ _ w => by
  simp [eqGuard, binOp, Op.intCmp, gne]
theorem Bin.lss {t : TypeId} (a b : T) : BinOk P .lss t (iv a) (iv b) (.bool (glt a b)) := fun _ _ w => by
  simp [eqGuard, binOp, Op.intCmp, glt]
theorem Bin.leq {t : TypeId} (a b : T) : BinOk P .leq t (iv a) (iv b) (.bool (gle a b)) := fun _ _ w => by
  simp [eqGuard, binOp, Op.intCmp, gle]
theorem Bin.gtr {t : TypeId} (a b : T) : BinOk P .gtr t (iv a) (iv b) (.bool (ggt a b)) := fun _ _ w => by
  simp [eqGuard, binOp, Op.intCmp, ggt]
theorem Bin.geq {t : TypeId} (a b : T) : BinOk P .geq t (iv a) (iv b) (.bool (gge a b)) := fun _ _ w => by
  simp [eqGuard, binOp, Op.intCmp, gge]
variable {T' : Type} {k' : IntKind} [GI T' k']
theorem Bin.shl {t : TypeId} (a : T) (b : T') (h : 0 ≤ GI.toZ b) : BinOk P .shl t (iv a) (iv b) (iv (gshl a (GI.toZ b).toNat)) := fun _ _ w => by
  have : ¬ GI.toZ b < 0 := by omega
  simp [eqGuard, binOp, Op.shift, gshl, ← ofZ_val, this]
/-- A shift to the right stays in the type's range. -/
theorem Bin.shr {t : TypeId} (a : T) (b : T') (h : 0 ≤ GI.toZ b) (hr : k.wrap ((GI.toZ a).fdiv (2 ^ (min (GI.toZ b).toNat k.bits))) = (GI.toZ a).fdiv (2 ^ (min (GI.toZ b).toNat k.bits))) :
    BinOk P .shr t (iv a) (iv b) (iv (gshr a (GI.toZ b).toNat)) := fun _ _ w => by
  have : ¬ GI.toZ b < 0 := by omega
  simp [eqGuard, binOp, Op.shift, gshr, ← ofZ_val, this, hr]
theorem run_equalIn_bool {t : TypeId} (hu : P.underlying t = some .bool) (d : Nat) (a b : Bool) (w : World) : (Op.equalIn (d + 1) t (.bool a) (.bool b)).run P w = .ok (a == b) w := by
  simp [Op.equalIn, run_underlying hu]
theorem Bin.bool_eql {t : TypeId} (hu : P.underlying t = some .bool) (a b : Bool) : BinOk P .eql t (.bool a) (.bool b) (.bool (a == b)) := fun _ _ w => by
  have h := run_equalIn_bool hu 9999 a b w
  simp only [eqGuard, binOp, Op.equal, Op.maxDepth]
  simp [h]
theorem Bin.bool_neq {t : TypeId} (hu : P.underlying t = some .bool) (a b : Bool) : BinOk P .neq t (.bool a) (.bool b) (.bool (a != b)) := fun _ _ w => by
  have h := run_equalIn_bool hu 9999 a b w
  simp only [eqGuard, binOp, Op.equal, Op.maxDepth]
  simp [h, bne]
theorem ba_toList (a : List UInt8) : (⟨a.toArray⟩ : ByteArray).toList = a := by rw [ByteArray.toList_eq]
theorem Bin.str_eql {t : TypeId} (a b : List UInt8) : BinOk P .eql t (sv a) (sv b) (.bool (a == b)) := fun _ _ w => by
  simp [eqGuard, binOp, Op.stringOp, ba_toList]
theorem Bin.str_neq {t : TypeId} (a b : List UInt8) : BinOk P .neq t (sv a) (sv b) (.bool (a != b)) := fun _ _ w => by
  simp [eqGuard, binOp, Op.stringOp, bne, ba_toList]
theorem ba_append (a b : List UInt8) : (⟨a.toArray⟩ : ByteArray) ++ ⟨b.toArray⟩ = ⟨(a ++ b).toArray⟩ := by
  simp [ByteArray.ext_iff]
theorem Bin.str_add {t : TypeId} (a b : List UInt8) (h : (a.length : Int) + b.length ≤ 9223372036854775807) : BinOk P .add t (sv a) (sv b) (sv (a ++ b)) := fun _ _ w => by
  have h1 : ¬ (9223372036854775807 < (a.length : Int) + b.length) := by omega
  have h2 : ∀ l : List UInt8, (⟨l.toArray⟩ : ByteArray).size = l.length := fun l => by simp [ByteArray.size]
  simp only [eqGuard, binOp, Op.stringOp]
  simp [h2, h1, ba_append]
end
end Go.Lv

set_option linter.unusedVariables false
set_option linter.unusedSimpArgs false
namespace Go.Lv
variable {P : Program} {n : Nat} {ops : Array Oper} {rest : List Oper} {K : Env → World → Prop} {σ : Env} {w : World}
variable {d : Nat} {ty : TypeId} {pos : String} {after : Array Edge}

/-- An operation that yields a value and leaves the world alone. -/
def XO (P : Program) (σ : Env) (w : World) (op : Op) (v : Value) : Prop :=
  ∀ (d : Option Tmp) (ty : TypeId) (pos : String) (after : Array Edge) (g : Option (Nat × Bool)), (execOp (ev σ) ⟨d, op, ty, pos, after, g⟩).run P w = .ok (.value v) w
theorem WL.x {op : Op} {v : Value} (hd : Nat.blt d n = true) (hx : XO P σ w op v) (h : WL P n ops rest K (upd σ d v) w) : WL P n ops (⟨some d, op, ty, pos, after, none⟩ :: rest) K σ w :=
  .val rfl rfl hd (hx _ _ _ _ _) h
/-- The value of a guarded operation. -/
def gv (b want : Bool) (v : Value) : Value := if b == want then v else undef
theorem gv_on {b want : Bool} {v : Value} (h : (b == want) = true) : gv b want v = v := by unfold gv; rw [if_pos h]
theorem WL.gx {op : Op} {v : Value} {j t : Nat} {want b : Bool} (hj : (ops[j]?).bind (·.dst) = some t) (hb : σ t = .bool b) (hd : Nat.blt d n = true)
    (hx : (b == want) = true → XO P σ w op v) (h : WL P n ops rest K (upd σ d (gv b want v)) w) :
    WL P n ops (⟨some d, op, ty, pos, after, some (j, want)⟩ :: rest) K σ w := by
  by_cases hbw : (b == want) = true
  · refine WL.on rfl hj hb hbw (WL.val rfl rfl hd (hx hbw _ _ _ _ _) ?_)
    rw [gv_on hbw] at h; exact h
  · have hbw' : (b == want) = false := by simpa using hbw
    refine WL.off rfl hj hb hbw' rfl hd ?_
    have : gv b want v = undef := by unfold gv; rw [hbw']; simp
    rw [this] at h; exact h

section
variable {x y c : Operand}
theorem X.move {v : Value} (hx : ev σ x = v) : XO P σ w (.move x) v := fun _ _ _ _ _ => by simp [execOp, hx]
theorem X.assign {v : Value} (hx : ev σ x = v) : XO P σ w (.assign x) v := fun _ _ _ _ _ => by simp [execOp, hx]
theorem X.bin {b : BinOp} {t t' : TypeId} {vx vy v : Value} (hx : ev σ x = vx) (hy : ev σ y = vy) (hr : BinOk P b t vx vy v) : XO P σ w (.binOp b t x y t') v := fun _ _ _ _ _ => by
  have := hr x y w
  simp only [execOp, hx, hy, Sem.run_bind, this, Result.andThen_ok]
  simp
theorem X.not {t : TypeId} {b : Bool} (hx : ev σ x = .bool b) : XO P σ w (.unOp .not t x) (.bool (!b)) := fun _ _ _ _ _ => by simp [execOp, hx, Op.unary]
theorem X.neg {T : Type} {k : IntKind} [GI T k] {t : TypeId} {a : T} (hx : ev σ x = iv a) : XO P σ w (.unOp .neg t x) (iv (gneg a)) := fun _ _ _ _ _ => by
  simp [execOp, hx, Op.unary, Op.intArith, gneg, ← ofZ_val]
theorem X.compl {T : Type} {k : IntKind} [GI T k] {t : TypeId} {a : T} (hx : ev σ x = iv a) : XO P σ w (.unOp .xor t x) (iv (gnot a)) := fun _ _ _ _ _ => by
  simp [execOp, hx, Op.unary, Op.intBits, gnot, ← ofZ_val]
theorem X.pick {b : Bool} {vx vy v : Value} (hc : ev σ c = .bool b) (hx : ev σ x = vx) (hy : ev σ y = vy) (hv : (if b then vx else vy) = v) : XO P σ w (.pick c x y) v := fun _ _ _ _ _ => by
  simp [execOp, hc, hx, hy, asBool]; cases b <;> simp at hv <;> simp [hv]
theorem X.pick_or {b e : Bool} (hc : ev σ c = .bool b) (hx : ev σ x = .bool true) (hy : ev σ y = gv b false (.bool e)) : XO P σ w (.pick c x y) (.bool (b || e)) :=
  X.pick hc hx hy (by cases b <;> rfl)
theorem X.pick_and {b e : Bool} (hc : ev σ c = .bool b) (hx : ev σ x = gv b true (.bool e)) (hy : ev σ y = .bool false) : XO P σ w (.pick c x y) (.bool (b && e)) :=
  X.pick hc hx hy (by cases b <;> rfl)
theorem X.extract {i : Nat} {vs : List Value} {v : Value} (hx : ev σ x = .tuple vs.toArray) (hi : vs[i]? = some v) : XO P σ w (.extract x i) v := fun _ _ _ _ _ => by
  simp [execOp, hx, Instr.extract, hi]
theorem X.conv {T T' : Type} {k k' : IntKind} [GI T k] [GI T' k'] {s t : TypeId} {a : T} {u : TypeDesc} (hs : P.underlying s = some u) (ht : P.underlying t = some (.int k'))
    (hx : ev σ x = iv a) : XO P σ w (.convert s t x) (iv (gconv a : T')) := fun _ _ _ _ _ => by
  simp [execOp, hx, convert, run_underlying hs, run_underlying ht, Conv.intToInt, gconv, ← ofZ_val]
theorem X.len_slice {t e : TypeId} {p : Option Addr} {len cap : Nat} (ht : P.underlying t = some (.slice e)) (hx : ev σ x = .slice p len cap) :
    XO P σ w (.call ⟨.builtin .len, #[x], #[t]⟩) (iv (len : Int)) := fun _ _ _ _ _ => by
  simp [execOp, resolve, invoke, builtin, Builtin.len_, hx, run_underlying ht, goInt, iv, GI.toZ]
theorem X.len_str {t : TypeId} {l : List UInt8} (ht : P.underlying t = some .string) (hx : ev σ x = sv l) : XO P σ w (.call ⟨.builtin .len, #[x], #[t]⟩) (iv (lenI l)) := fun _ _ _ _ _ => by
  have h2 : (⟨l.toArray⟩ : ByteArray).size = l.length := by simp [ByteArray.size]
  simp [execOp, resolve, invoke, builtin, Builtin.len_, hx, run_underlying ht, goInt, iv, GI.toZ, lenI, h2]
theorem X.len_arr {t e : TypeId} {m : Nat} {v : Value} (ht : P.underlying t = some (.array m e)) (hx : ev σ x = v) : XO P σ w (.call ⟨.builtin .len, #[x], #[t]⟩) (iv (m : Int)) := fun _ _ _ _ _ => by
  simp [execOp, resolve, invoke, builtin, Builtin.len_, hx, run_underlying ht, goInt, iv, GI.toZ]
theorem X.min {T : Type} {k : IntKind} [GI T k] {ts : Array TypeId} {a b : T} (hx : ev σ x = iv a) (hy : ev σ y = iv b) : XO P σ w (.call ⟨.builtin .min, #[x, y], ts⟩) (iv (gmin a b)) := fun _ _ _ _ _ => by
  simp [execOp, resolve, invoke, builtin, Builtin.min_, Builtin.min2, hx, hy, gmin]
  split <;> rfl
theorem X.max {T : Type} {k : IntKind} [GI T k] {ts : Array TypeId} {a b : T} (hx : ev σ x = iv a) (hy : ev σ y = iv b) : XO P σ w (.call ⟨.builtin .max, #[x, y], ts⟩) (iv (gmax a b)) := fun _ _ _ _ _ => by
  simp [execOp, resolve, invoke, builtin, Builtin.max_, Builtin.max2, hx, hy, gmax]
  split <;> rfl
theorem X.makeFunc {f : FuncId} {cap : List Operand} {vs : List Value} (hc : cap.map (ev σ) = vs) : XO P σ w (.makeFunc (.func f) #[] cap.toArray) (.func (.func f) #[] vs.toArray) := fun _ _ _ _ _ => by
  simp [execOp, Instr.makeFunc, hc]
theorem X.nilCheck {a : Addr} (hx : ev σ x = .pointer (some a)) : XO P σ w (.nilCheck x) (.pointer (some a)) := fun _ _ _ _ _ => by simp [execOp, hx]
end

/-- Function f has a body, and is entered where it is called. -/
def Ent (P : Program) (f : FuncId) : Prop := ∀ (args : Array Value) (w : World), (callFunc f args).run P w = .ok (.enter f args) w
theorem Ent.mk {f : FuncId} {fn : Func} {c : Code} (hf : P.funcs[f]? = some fn) (hn : (fn.name == "runtime.NumGoroutine") = false) (hb : fn.body = some c) : Ent P f := fun args w => by
  have hn' : ¬ fn.name = "runtime.NumGoroutine" := by simpa using hn
  unfold callFunc
  show Sem.run P (Sem.bind (Sem.program Sem.pure) _) w = _
  simp only [Sem.bind, Sem.run, hf]
  simp [hn', hb]
/-- An operation that enters a function. -/
def XE (P : Program) (σ : Env) (w : World) (op : Op) (f : FuncId) (vs : Array Value) : Prop :=
  ∀ (d : Option Tmp) (ty : TypeId) (pos : String) (after : Array Edge) (g : Option (Nat × Bool)), (execOp (ev σ) ⟨d, op, ty, pos, after, g⟩).run P w = .ok (.enter f vs) w
theorem X.call {f : FuncId} {args : List Operand} {ts : Array TypeId} {vs : List Value} (he : Ent P f) (ha : args.map (ev σ) = vs) : XE P σ w (.call ⟨.value (.func f), args.toArray, ts⟩) f vs.toArray := fun _ _ _ _ _ => by
  have := he vs.toArray w
  simp [execOp, resolve, ev, Deferred.ofValue, invoke, ha, this]
theorem X.callv {f : FuncId} {g : Operand} {args : List Operand} {ts : Array TypeId} {vs cs : List Value} (he : Ent P f) (hg : ev σ g = .func (.func f) #[] cs.toArray) (ha : args.map (ev σ) = vs) :
    XE P σ w (.call ⟨.value g, args.toArray, ts⟩) f (vs ++ cs).toArray := fun _ _ _ _ _ => by
  have := he (vs ++ cs).toArray w
  simp [execOp, resolve, hg, Deferred.ofValue, invoke, ha, this]
theorem WL.e {op : Op} {f : FuncId} {vs : Array Value} {R1 : Ending → World → Prop} (hd : Nat.blt d n = true) (hx : XE P σ w op f vs) (hc : Calls P f vs w R1)
    (hr : ∀ e w', R1 e w' → ∃ r, e = .returned r ∧ WL P n ops rest K (upd σ d r) w') : WL P n ops (⟨some d, op, ty, pos, after, none⟩ :: rest) K σ w :=
  .enter rfl rfl hd (hx _ _ _ _ _) hc hr
theorem WL.ei {op : Op} {f : FuncId} {vs : Array Value} (hd : Nat.blt d n = true) (hx : XE P σ w op f vs)
    (hc : Calls P f vs w (fun e w' => ∃ r, e = .returned r ∧ WL P n ops rest K (upd σ d r) w')) : WL P n ops (⟨some d, op, ty, pos, after, none⟩ :: rest) K σ w :=
  .enter rfl rfl hd (hx _ _ _ _ _) hc (fun _ _ h => h)
end Go.Lv

set_option linter.unusedVariables false
set_option linter.unusedSimpArgs false
namespace Go.Lv
variable {P : Program} {n : Nat} {ops : Array Oper} {rest : List Oper} {K : Env → World → Prop} {σ : Env} {w : World}
variable {d : Nat} {ty : TypeId} {pos : String} {after : Array Edge} {A : Reg} {F : List Fact} {L : List Mob}

/-! ### the types' facts that the operations ask -/
/-- Not a struct, not an array: one cell. -/
def aggB : TypeDesc → Bool
  | .struct _ | .array _ _ => true
  | _ => false
def Plain (P : Program) (t : TypeId) : Prop := ∃ u, P.underlying t = some u ∧ aggB u = false
def Aggr (P : Program) (t : TypeId) : Prop := ∃ u, P.underlying t = some u ∧ aggB u = true
def SizeIs (P : Program) (t : TypeId) (s : Nat) : Prop := ∃ i, P.info? t = some i ∧ i.size = s
theorem run_isAgg_of {t : TypeId} {u : TypeDesc} {b : Bool} (h : P.underlying t = some u) (hb : aggB u = b) (w : World) : (isAgg t).run P w = .ok b w := by
  unfold isAgg
  rw [Sem.run_bind, run_underlying h, Result.andThen_ok]
  subst hb
  cases u <;> rfl
theorem run_sizeOf_of {t : TypeId} {s : Nat} (h : SizeIs P t s) (w : World) : (sizeOf t).run P w = .ok s w := by
  obtain ⟨i, hi, rfl⟩ := h
  simp [sizeOf, typeInfo, hi]

/-! ### cells -/
theorem cell_of {b off : Nat} {arr : Array Value} {T : TypeId} {fr : Nat × Nat} (h : w.heap[b]? = some (.cells arr T fr)) : w.cell? ⟨b, off, none⟩ = arr[off]? := by
  simp [World.cell?, h]
theorem run_load_cell {b off : Nat} {v : Value} (h : w.cell? ⟨b, off, none⟩ = some v) : (load ⟨b, off, none⟩).run P w = .ok v w := by
  simp [load, Sem.run, h]
theorem add_off (b off k : Nat) : (⟨b, off, none⟩ : Addr).add k = ⟨b, off + k, none⟩ := by
  unfold Addr.add; split <;> simp_all
theorem run_loadCells_of {b off : Nat} (cs : List Value) (h : ∀ i, i < cs.length → w.cell? ⟨b, off + i, none⟩ = cs[i]?) : (loadCells ⟨b, off, none⟩ cs.length).run P w = .ok cs.toArray w :=
  run_loadCells_list (P := P) (w := w) ⟨b, off, none⟩ cs (fun j v hj => by
    have hlt : j < cs.length := (List.getElem?_eq_some_iff.1 hj).1
    rw [add_off, h j hlt, hj])

/-! ### the state and its blocks -/
theorem Mobs.mem {A : Reg} : ∀ {L : List Mob} {A : Reg} {m : Mob} {i : Nat}, Mobs w A L → L[i]? = some m → ∃ o, m.holds o w
  | [], _, _, _, _, h => by simp at h
  | _ :: _, _, _, 0, ⟨o, h1, _, _⟩, h => ⟨o, by simp at h; exact h ▸ h1⟩
  | _ :: _, _, _, _ + 1, ⟨_, _, _, h3⟩, h => Mobs.mem (A := A) h3 (by simpa using h)
theorem St.box (hs : St A w F L) {i b : Nat} {cells : List Value} {T : TypeId} (hL : L[i]? = some (.box b cells T)) : w.heap[b]? = some (.cells cells.toArray T (0, 0)) := by
  obtain ⟨o, h1, h2⟩ := Mobs.mem (A := A) hs.mobs hL
  exact h2
/-- The world with one block changed. -/
def setBlk (w : World) (b : Nat) (o : Obj) : World := { w with heap := w.heap.setIfInBounds b o }
theorem St.setBox (hs : St A w F L) {i b : Nat} {cells cells' : List Value} {T : TypeId} (hL : L[i]? = some (.box b cells T)) :
    St A (setBlk w b (.cells cells'.toArray T (0, 0))) F (L.set i (.box b cells' T)) := by
  have hb := lt_of_heap (hs.box hL)
  have h1 := hs.front hL
  refine St.back hL ?_
  obtain ⟨o, ⟨rfl, _⟩, h3, h4⟩ := h1.mobs
  have hsz : (setBlk w b (.cells cells'.toArray T (0, 0))).heap.size = w.heap.size := by simp [setBlk]
  have hne : ∀ c, c ≠ b → (setBlk w b (.cells cells'.toArray T (0, 0))).heap[c]? = w.heap[c]? := fun c hc => by
    simp [setBlk, Array.getElem?_setIfInBounds_ne (Ne.symm hc)]
  have hnA := (h3 b rfl).1
  refine ⟨fun c hc => by rw [hsz]; exact hs.lt c hc, fun f hf => f.step (hs.facts f hf) (fun _ h => h) (fun c hc => hne c (fun e => hnA (e ▸ hc))) ⟨by rw [hsz]; exact Nat.le_refl _, rfl, rfl, rfl⟩, some b, ⟨rfl, ?_⟩, fun c hc => ⟨(h3 c hc).1, by rw [hsz]; exact (h3 c hc).2⟩, ?_⟩
  · simp [setBlk, hb]
  · refine h4.step (by rw [hsz]; exact Nat.le_refl _) (fun c _ hc => hne c (fun e => hc (.inr (by rw [e]))))
/-- A new block. -/
def newBlk (w : World) (o : Obj) : World := { w with heap := w.heap.push o }
theorem newBlk_size (w : World) (o : Obj) : (newBlk w o).heap.size = w.heap.size + 1 := by simp only [newBlk, Array.size_push]
theorem newBlk_old {w : World} {o : Obj} {b : Nat} (hb : b < w.heap.size) : (newBlk w o).heap[b]? = w.heap[b]? := by
  simp only [newBlk]; rw [Array.getElem?_push_lt hb, Array.getElem?_eq_getElem hb]
theorem newBlk_new (w : World) (o : Obj) : (newBlk w o).heap[w.heap.size]? = some o := by
  simp only [newBlk, Array.getElem?_push_size]
theorem newBlk_keep (w : World) (o : Obj) : Keep w (newBlk w o) := ⟨fun b hb => newBlk_old hb, by rw [newBlk_size]; omega, rfl, rfl, rfl⟩
theorem St.newMob (hs : St A w F L) (o : Obj) (m : Mob) (hm : m.holds (some w.heap.size) (newBlk w o)) : St A (newBlk w o) F (m :: L) := by
  have hk := newBlk_keep w o
  have h1 := hs.keep hk
  refine ⟨h1.lt, h1.facts, some w.heap.size, hm, fun b hb => ⟨fun h => ?_, ?_⟩, ?_⟩
  · cases hb; exact Nat.lt_irrefl _ (hs.lt _ h)
  · cases hb; rw [newBlk_size]; omega
  · refine (hs.mobs.lt.step hk.le fun b hb _ => hk.same b hb).anti ?_
    rintro b (h | h)
    · exact .inl h
    · cases h; exact .inr (Nat.le_refl _)
theorem St.newBox (hs : St A w F L) (cells : List Value) (T : TypeId) : St A (newBlk w (.cells cells.toArray T)) F (.box w.heap.size cells T :: L) :=
  hs.newMob _ _ ⟨rfl, newBlk_new _ _⟩
theorem Fact.old_of (hs : St A w F L) {M : Reg} {w0 : World} {i : Nat} (hF : F[i]? = some (.old M w0)) : (Fact.old M w0).holds A w := hs.fact i hF

/-! ### loads and stores of variables of one's own -/
theorem X.load_box {x : Operand} {t T : TypeId} {i b off : Nat} {cells : List Value} {v : Value} (hs : St A w F L) (hL : L[i]? = some (.box b cells T)) (ht : Plain P t)
    (hx : ev σ x = .pointer (some ⟨b, off, none⟩)) (hv : cells[off]? = some v) : XO P σ w (.load t x) v := fun _ _ _ _ _ => by
  obtain ⟨u, hu, hp⟩ := ht
  have hc : w.cell? ⟨b, off, none⟩ = some v := by rw [cell_of (hs.box hL)]; simpa using hv
  simp only [execOp, hx, Instr.loadAt, Instr.sureAddr, Sem.run_bind, Sem.run_pure, Result.andThen_ok, loadVar, run_isAgg_of hu hp, Bool.false_eq_true, if_false, run_load_cell hc]
theorem X.load_boxs {x : Operand} {t T : TypeId} {i b off s : Nat} {cells vs : List Value} (hs : St A w F L) (hL : L[i]? = some (.box b cells T)) (ht : Aggr P t) (hsz : SizeIs P t s)
    (hx : ev σ x = .pointer (some ⟨b, off, none⟩)) (hv : (cells.drop off).take s = vs) (hl : vs.length = s) : XO P σ w (.load t x) (.agg vs.toArray) := fun _ _ _ _ _ => by
  obtain ⟨u, hu, hp⟩ := ht
  have hc := run_loadCells_of (P := P) (w := w) (b := b) (off := off) vs (fun j hj => by
    rw [cell_of (hs.box hL)]
    subst hv
    rw [List.length_take] at hj
    simp [List.getElem?_take, List.getElem?_drop]
    omega)
  rw [hl] at hc
  simp only [execOp, hx, Instr.loadAt, Instr.sureAddr, Sem.run_bind, Sem.run_pure, Result.andThen_ok, loadVar, run_isAgg_of hu hp, if_true, run_sizeOf_of hsz, hc]

def splice (cells : List Value) (off : Nat) (vs : List Value) : List Value := cells.take off ++ (vs ++ cells.drop (off + vs.length))
theorem splice_length {cells : List Value} {off : Nat} {vs : List Value} (h : off + vs.length ≤ cells.length) : (splice cells off vs).length = cells.length := by
  simp [splice]; omega
theorem splice_cons {cells : List Value} {off : Nat} {v : Value} {vs : List Value} (h : off + (v :: vs).length ≤ cells.length) :
    splice (cells.set off v) (off + 1) vs = splice cells off (v :: vs) := by
  simp at h
  have e1 : (cells.set off v).take (off + 1) = cells.take off ++ [v] := by
    rw [List.take_succ_eq_append_getElem (by simp; omega)]
    have e0 : (cells.set off v).take off = cells.take off := by
      apply List.ext_getElem?
      intro i
      rw [List.getElem?_take, List.getElem?_take]
      by_cases hi : i < off
      · rw [if_pos hi, if_pos hi, List.getElem?_set_ne (by omega)]
      · rw [if_neg hi, if_neg hi]
    rw [e0]
    simp
  have e2 : (cells.set off v).drop (off + 1 + vs.length) = cells.drop (off + (v :: vs).length) := by
    rw [List.drop_set_of_lt (by omega)]
    simp [Nat.add_comm, Nat.add_left_comm]
  simp only [splice, e1, e2, List.append_assoc, List.cons_append, List.nil_append]
/-- A store of a row of cells into a block that is known whole. -/
theorem run_storeCells_blk (b : Nat) (T : TypeId) (fr : Nat × Nat) : ∀ (vs : List Value) (off : Nat) (i : Nat) (cells : List Value) (w : World), w.heap[b]? = some (.cells cells.toArray T fr) →
    off + i + vs.length ≤ cells.length → (fr.2 ≤ off + i ∨ cells.length ≤ fr.1 ∨ fr.2 ≤ fr.1) → (∀ v ∈ vs, v.oneCell' = true) →
    (storeCells ⟨b, off, none⟩ vs i).run P w = .ok () (setBlk w b (.cells (splice cells (off + i) vs).toArray T fr))
  | [], off, i, cells, w, h, hl, hf, h1 => by
    have hb := lt_of_heap h
    have : setBlk w b (.cells (splice cells (off + i) []).toArray T fr) = w := by
      have e : splice cells (off + i) [] = cells := by simp [splice]
      rw [e]
      cases w with
      | mk heap tape drawn os output =>
        simp only [setBlk, World.mk.injEq, and_true, true_and]
        apply Array.ext_getElem?
        intro j
        by_cases hj : j = b
        · subst hj; simp at hb h ⊢; rw [Array.getElem?_setIfInBounds_self_of_lt hb]; exact h.symm
        · simp [Array.getElem?_setIfInBounds_ne (Ne.symm hj)]
    rw [this]; rfl
  | v :: vs, off, i, cells, w, h, hl, hf, h1 => by
    have hb := lt_of_heap h
    have hlt : off + i < cells.length := by simp at hl; omega
    unfold storeCells
    rw [Sem.run_bind, run_store P w _ v _ (h1 v (.head _)), add_off]
    have hc : w.cell? ⟨b, off + i, none⟩ = some cells[off + i] := by rw [cell_of h]; simp [hlt]
    have hfz : w.frozen? ⟨b, off + i, none⟩ = false := by
      simp only [World.frozen?, h]
      simp
      omega
    rw [hc]
    simp only [hfz, Bool.false_eq_true, if_false, Result.andThen_ok]
    have hw : w.setCell ⟨b, off + i, none⟩ v = setBlk w b (.cells (cells.set (off + i) v).toArray T fr) := by
      simp only [World.setCell, setBlk, World.mk.injEq, and_true, true_and]
      apply Array.ext_getElem?
      intro j
      rw [Array.getElem?_modify]
      by_cases hj : j = b
      · subst hj; simp only [if_true, h]; rw [Array.getElem?_setIfInBounds_self_of_lt hb]; simp
      · rw [if_neg (Ne.symm hj), Array.getElem?_setIfInBounds_ne (Ne.symm hj)]
    rw [hw]
    have hr := run_storeCells_blk b T fr vs off (i + 1) (cells.set (off + i) v) (setBlk w b (.cells (cells.set (off + i) v).toArray T fr)) (by simp [setBlk, hb])
      (by simp at hl ⊢; omega) (by simp; omega) (fun u hu => h1 u (.tail _ hu))
    rw [hr]
    have hsp : splice (cells.set (off + i) v) (off + (i + 1)) vs = splice cells (off + i) (v :: vs) := by
      rw [← Nat.add_assoc]; exact splice_cons (by simpa using hl)
    rw [hsp]
    congr 1
    simp [setBlk]
theorem WL.store_box {a x : Operand} {t T : TypeId} {i b off s : Nat} {cells cells' vs : List Value} {v : Value} {L' : List Mob} (hs : St A w F L) (hL : L[i]? = some (.box b cells T)) (hsz : SizeIs P t s)
    (ha : ev σ a = .pointer (some ⟨b, off, none⟩)) (hx : ev σ x = v) (hv : v.cells = vs.toArray) (hl : vs.length = s) (h1 : vs.all (·.oneCell') = true) (hle : Nat.ble (off + s) cells.length = true)
    (hc : splice cells off vs = cells') (hL' : L.set i (.box b cells' T) = L') (h : ∀ w', St A w' F L' → WL P n ops rest K σ w') :
    WL P n ops (⟨none, .store t a x, ty, pos, after, none⟩ :: rest) K σ w := by
  have hle' : off + s ≤ cells.length := by simpa using hle
  have hr := run_storeCells_blk (P := P) b T (0, 0) vs off 0 cells w (hs.box hL) (by omega) (.inr (.inr (Nat.le_refl _))) (fun v hv => by simpa using List.all_eq_true.1 h1 v hv)
  simp only [Nat.add_zero, hc] at hr
  refine .unit rfl rfl (w' := setBlk w b (.cells cells'.toArray T (0, 0))) ?_ (h _ (hL' ▸ hs.setBox hL))
  simp [execOp, ha, hx, Instr.storeAt, Instr.sureAddr, storeVar, run_sizeOf_of hsz, hv, hl, hr]
theorem run_newVar (e : TypeId) (v : Value) (cells : List Value) (hv : v.cells = cells.toArray) : (newVar e v).run P w = .ok ⟨w.heap.size, 0, none⟩ (newBlk w (.cells cells.toArray e)) := by
  unfold newVar; rw [hv]; rfl
theorem WL.box {x : Operand} {e : TypeId} {v : Value} {cells : List Value} (hs : St A w F L) (hd : Nat.blt d n = true) (hx : ev σ x = v) (hv : v.cells = cells.toArray)
    (h : ∀ b w', St A w' F (.box b cells e :: L) → WL P n ops rest K (upd σ d (.pointer (some ⟨b, 0, none⟩))) w') :
    WL P n ops (⟨some d, .box e x, ty, pos, after, none⟩ :: rest) K σ w := by
  refine .val rfl rfl hd (w' := newBlk w (.cells cells.toArray e)) (v := .pointer (some ⟨w.heap.size, 0, none⟩)) ?_ (h _ _ (hs.newBox cells e))
  simp only [execOp, hx, Instr.box, Sem.run_bind, run_newVar e v cells hv, Result.andThen_ok, Sem.run_pure]
theorem WL.alloc {e : TypeId} {z : Value} {cells : List Value} (hs : St A w F L) (hd : Nat.blt d n = true) (hz : ∃ i, P.info? e = some i ∧ i.zero = some z) (hv : z.cells = cells.toArray)
    (h : ∀ b w', St A w' F (.box b cells e :: L) → WL P n ops rest K (upd σ d (.pointer (some ⟨b, 0, none⟩))) w') :
    WL P n ops (⟨some d, .alloc e, ty, pos, after, none⟩ :: rest) K σ w := by
  obtain ⟨i, hi, hz⟩ := hz
  have hz' : (zeroValue e).run P w = .ok z w := by simp [zeroValue, typeInfo, hi, hz]
  refine .val rfl rfl hd (w' := newBlk w (.cells cells.toArray e)) (v := .pointer (some ⟨w.heap.size, 0, none⟩)) ?_ (h _ _ (hs.newBox cells e))
  simp only [execOp, Instr.alloc, Sem.run_bind, hz', run_newVar e z cells hv, Result.andThen_ok, Sem.run_pure]
end Go.Lv

set_option linter.unusedVariables false
set_option linter.unusedSimpArgs false
namespace Go.Lv
variable {P : Program} {n : Nat} {ops : Array Oper} {rest : List Oper} {K : Env → World → Prop} {σ : Env} {w : World}
variable {d : Nat} {ty : TypeId} {pos : String} {after : Array Edge} {A : Reg} {F : List Fact} {L : List Mob}

/-! ### addresses -/
/-- Field number f of the struct type t lies k cells on, and has a size. -/
def FieldAt (P : Program) (t : TypeId) (f k : Nat) : Prop := ∃ fs fd i, P.underlying t = some (.struct fs) ∧ fs[f]? = some fd ∧ fd.offset = k ∧ P.info? fd.type = some i ∧ i.size ≠ 0
theorem run_fieldAt {t : TypeId} {f k b off : Nat} (h : FieldAt P t f k) : (Instr.fieldAt t (.pointer (some ⟨b, off, none⟩)) f).run P w = .ok (.pointer (some ⟨b, off + k, none⟩)) w := by
  obtain ⟨fs, fd, i, h1, h2, h3, h4, h5⟩ := h
  have h6 := run_sizeOf_of (P := P) ⟨i, h4, rfl⟩ w
  simp only [Instr.fieldAt, Sem.run_bind, run_underlying h1, Result.andThen_ok, h2, Instr.sureAddr, Sem.run_pure, fieldPlace, h6, h5, if_false, add_off, h3]
theorem X.fieldAddr {t : TypeId} {x : Operand} {f k b off off' : Nat} (hf : FieldAt P t f k) (hx : ev σ x = .pointer (some ⟨b, off, none⟩)) (ho : off + k = off') :
    XO P σ w (.fieldAddr t x f) (.pointer (some ⟨b, off', none⟩)) := fun _ _ _ _ _ => by
  simp only [execOp, hx, Sem.run_bind, run_fieldAt hf, Result.andThen_ok, Sem.run_pure, ho]
/-- A field of a struct value. -/
theorem X.field {t u : TypeId} {x : Operand} {f k s : Nat} {cells : List Value} {v : Value} (hf : ∃ fs fd, P.underlying t = some (.struct fs) ∧ fs[f]? = some fd ∧ fd.offset = k ∧ fd.type = u)
    (hu : (Plain P u ∧ cells[k]? = some v) ∨ (Aggr P u ∧ SizeIs P u s ∧ .agg ((cells.drop k).take s).toArray = v)) (hx : ev σ x = .agg cells.toArray) : XO P σ w (.field t x f) v := fun _ _ _ _ _ => by
  obtain ⟨fs, fd, h1, h2, rfl, rfl⟩ := hf
  rcases hu with ⟨⟨u, hu, hp⟩, hv⟩ | ⟨⟨u, hu, hp⟩, hsz, hv⟩
  · simp only [execOp, hx, Instr.field, Sem.run_bind, run_underlying h1, Result.andThen_ok, h2, asAgg, Sem.run_pure, part, run_isAgg_of hu hp, Bool.false_eq_true, if_false]
    simp [hv]
  · simp only [execOp, hx, Instr.field, Sem.run_bind, run_underlying h1, Result.andThen_ok, h2, asAgg, Sem.run_pure, part, run_isAgg_of hu hp, if_true, run_sizeOf_of hsz]
    rw [← hv]
    simp [List.extract_eq_take_drop]

/-! ### slices that are only read -/
theorem X.len_rd {x : Operand} {t e : TypeId} {R : Reg} {s j m : Nat} {v : Value} {cs : List Value} (ht : P.underlying t = some (.slice e)) (hs : St A w F L) (hF : F[j]? = some (.rd R s v cs))
    (hl : cs.length = m * s) (hp : 0 < s) (hx : ev σ x = v) : XO P σ w (.call ⟨.builtin .len, #[x], #[t]⟩) (iv (m : Int)) := by
  obtain ⟨p, len, cap, rfl, h2, _⟩ := hs.fact j hF
  have : len = m := Nat.eq_of_mul_eq_mul_right hp (h2.symm.trans hl)
  subst this
  exact X.len_slice ht hx
theorem X.len_own {x : Operand} {t e E : TypeId} {s j m : Nat} {v : Value} {cs : List Value} (ht : P.underlying t = some (.slice e)) (hs : St A w F L) (hL : L[j]? = some (.own s E v cs))
    (hl : cs.length = m * s) (hp : 0 < s) (hx : ev σ x = v) : XO P σ w (.call ⟨.builtin .len, #[x], #[t]⟩) (iv (m : Int)) := by
  obtain ⟨o, p, len, cap, rfl, h2, _⟩ := Mobs.mem (A := A) hs.mobs hL
  have : len = m := Nat.eq_of_mul_eq_mul_right hp (h2.symm.trans hl)
  subst this
  exact X.len_slice ht hx
/-- A pointer to cells that are only read. -/
def Fact.ptr (R : Reg) (pv : Value) (cs : List Value) : Fact where
  holds A w := ∃ b off arr T fr, pv = .pointer (some ⟨b, off, none⟩) ∧ (A b ∧ R b) ∧ w.heap[b]? = some (.cells arr T fr) ∧ ∀ i, i < cs.length → arr[off + i]? = cs[i]?
  step := by
    rintro A A' w w' ⟨b, off, arr, T, fr, h1, ⟨h2, h3⟩, h4, h5⟩ ha hs _
    exact ⟨b, off, arr, T, fr, h1, ⟨ha _ h2, h3⟩, (hs _ h2).trans h4, h5⟩
theorem X.index_rd {t e : TypeId} {R : Reg} {s j m i : Nat} {v : Value} {cs : List Value} (ht : P.underlying t = some (.slice e)) (hsz : SizeIs P e s) (hs : St A w F L) (hF : F[j]? = some (.rd R s v cs))
    (hl : cs.length = m * s) (hp : 0 < s) (hi : i < m) :
    ∃ pv, (∀ (σ : Env) (w : World) (x ix : Operand), ev σ x = v → ev σ ix = iv (i : Int) → XO P σ w (.indexAddr t x ix) pv) ∧ St A w (.ptr R pv ((cs.drop (i * s)).take s) :: F) L := by
  obtain ⟨p, len, cap, rfl, h2, h3, h4, h5⟩ := hs.fact j hF
  have hlen : len = m := Nat.eq_of_mul_eq_mul_right hp (h2.symm.trans hl)
  subst hlen
  obtain ⟨b, off, arr, T, fr, rfl, hA, hb, hc, he⟩ := h5 (by omega)
  refine ⟨.pointer (some ⟨b, off + i * s, none⟩), fun σ w x ix hx hix _ _ _ _ _ => ?_, hs.addF ⟨b, off + i * s, arr, T, fr, rfl, hA, hb, fun k hk => ?_⟩⟩
  · have h6 : (0 : Int) ≤ i ∧ (i : Int) < len := by omega
    simp only [execOp, hx, hix, iv, GI.toZ, Instr.indexAt, Sem.run_bind, asIntOf, Sem.run_pure, Result.andThen_ok, run_underlying ht, h6, and_self, if_true, run_sizeOf_of hsz, add_off, Int.toNat_natCast]
  · have hk' : k < s := by rw [List.length_take] at hk; omega
    have hle : (i + 1) * s ≤ len * s := Nat.mul_le_mul_right s hi
    rw [Nat.succ_mul] at hle
    rw [Nat.add_assoc, he (i * s + k) (by omega)]
    simp [List.getElem?_take, List.getElem?_drop, hk']
theorem X.load_ptr {x : Operand} {t : TypeId} {R : Reg} {j : Nat} {pv v : Value} {cs : List Value} (hs : St A w F L) (hF : F[j]? = some (.ptr R pv cs)) (ht : Plain P t)
    (hx : ev σ x = pv) (hv : cs[0]? = some v) : XO P σ w (.load t x) v := fun _ _ _ _ _ => by
  obtain ⟨u, hu, hp⟩ := ht
  obtain ⟨b, off, arr, T, fr, rfl, _, hb, he⟩ := hs.fact j hF
  have hc : w.cell? ⟨b, off, none⟩ = some v := by rw [cell_of hb, ← hv]; exact he 0 (List.getElem?_eq_some_iff.1 hv).1
  simp only [execOp, hx, Instr.loadAt, Instr.sureAddr, Sem.run_bind, Sem.run_pure, Result.andThen_ok, loadVar, run_isAgg_of hu hp, Bool.false_eq_true, if_false, run_load_cell hc]
theorem X.load_ptrs {x : Operand} {t : TypeId} {R : Reg} {j s : Nat} {pv : Value} {cs : List Value} (hs : St A w F L) (hF : F[j]? = some (.ptr R pv cs)) (ht : Aggr P t) (hsz : SizeIs P t s)
    (hx : ev σ x = pv) (hl : cs.length = s) : XO P σ w (.load t x) (.agg cs.toArray) := fun _ _ _ _ _ => by
  obtain ⟨u, hu, hp⟩ := ht
  obtain ⟨b, off, arr, T, fr, rfl, _, hb, he⟩ := hs.fact j hF
  have hc := run_loadCells_of (P := P) (w := w) (b := b) (off := off) cs (fun k hk => by rw [cell_of hb]; exact he k hk)
  rw [hl] at hc
  simp only [execOp, hx, Instr.loadAt, Instr.sureAddr, Sem.run_bind, Sem.run_pure, Result.andThen_ok, loadVar, run_isAgg_of hu hp, if_true, run_sizeOf_of hsz, hc]
theorem X.field_ptr {t : TypeId} {R : Reg} {f k j : Nat} {pv : Value} {cs : List Value} (hs : St A w F L) (hF : F[j]? = some (.ptr R pv cs)) (hf : FieldAt P t f k) :
    ∃ pv', (∀ (σ : Env) (w : World) (x : Operand), ev σ x = pv → XO P σ w (.fieldAddr t x f) pv') ∧ St A w (.ptr R pv' (cs.drop k) :: F) L := by
  obtain ⟨b, off, arr, T, fr, rfl, hA, hb, he⟩ := hs.fact j hF
  refine ⟨.pointer (some ⟨b, off + k, none⟩), fun σ w x hx _ _ _ _ _ => ?_, hs.addF ⟨b, off + k, arr, T, fr, rfl, hA, hb, fun i hi => ?_⟩⟩
  · simp only [execOp, hx, Sem.run_bind, run_fieldAt hf, Result.andThen_ok, Sem.run_pure]
  · rw [List.length_drop] at hi
    rw [Nat.add_assoc, he (k + i) (by omega), List.getElem?_drop]

/-- Cutting a slice. -/
def loV (lo : Option Int) : Int := lo.getD 0
theorem run_slice {t e : TypeId} {s len cap lo hi : Nat} {p : Option Addr} {vlo vhi : Option Value} (ht : P.underlying t = some (.slice e)) (hsz : SizeIs P e s) (h1 : lo ≤ hi) (h2 : hi ≤ len) (h3 : len ≤ cap)
    (hlo : (∃ q, vlo = some (.int q lo)) ∨ (vlo = none ∧ lo = 0)) (hhi : (∃ q, vhi = some (.int q hi)) ∨ (vhi = none ∧ hi = len)) :
    (Instr.slice t (.slice p len cap) vlo vhi none).run P w = .ok (.slice (if cap = lo then p else p.map (·.add (lo * s))) (hi - lo) (cap - lo)) w := by
  have e4 : hi ≤ cap := by omega
  rcases hlo with ⟨q, rfl⟩ | ⟨rfl, rfl⟩ <;> rcases hhi with ⟨q', rfl⟩ | ⟨rfl, rfl⟩ <;>
    simp [Instr.slice, run_underlying ht, Instr.sliceBounds, Instr.sliceBound, asIntOf, run_sizeOf_of hsz, h1, e4]
  all_goals (try (intro h; omega))
theorem X.slice_rd {t e : TypeId} {R : Reg} {s j m l k : Nat} {v : Value} {cs : List Value} (ht : P.underlying t = some (.slice e)) (hsz : SizeIs P e s) (hs : St A w F L)
    (hF : F[j]? = some (.rd R s v cs)) (hl : cs.length = m * s) (hp : 0 < s) (hlk : l ≤ k) (hkm : k ≤ m) :
    ∃ p' l' c', (∀ (σ : Env) (w : World) (x : Operand) (lo hi : Option Operand), ev σ x = v → ((∃ q, lo.map (ev σ) = some (.int q (l : Int))) ∨ (lo = none ∧ l = 0)) → ((∃ q, hi.map (ev σ) = some (.int q (k : Int))) ∨ (hi = none ∧ k = m)) → XO P σ w (.slice t x lo hi none) (.slice p' l' c')) ∧ St A w (.rd R s (.slice p' l' c') ((cs.take (k * s)).drop (l * s)) :: F) L := by
  obtain ⟨p, len, cap, rfl, h2, h3, h4, h5⟩ := hs.fact j hF
  have hlen : len = m := Nat.eq_of_mul_eq_mul_right hp (h2.symm.trans hl)
  subst hlen
  have e1 : l * s ≤ k * s := Nat.mul_le_mul_right s hlk
  have e2 : k * s ≤ len * s := Nat.mul_le_mul_right s hkm
  have e3 : (k - l) * s = k * s - l * s := Nat.sub_mul k l s
  have e9 : k - l ≤ cap - l := by omega
  have e10 : l * s + (cap - l) * s = cap * s := by
    rw [Nat.sub_mul]
    have := Nat.mul_le_mul_right s (show l ≤ cap by omega)
    omega
  refine ⟨(if cap = l then p else p.map (·.add (l * s))), k - l, cap - l, fun σ w x lo hi hx hlo hhi _ _ _ _ _ => ?_, hs.addF ⟨_, _, _, rfl, ?_, e9, ?_, fun hc => ?_⟩⟩
  · have hr := run_slice (P := P) (w := w) (p := p) (vlo := lo.map (ev σ)) (vhi := hi.map (ev σ)) ht hsz hlk hkm h3 (by rcases hlo with h | ⟨h, h'⟩; exact .inl h; exact .inr ⟨by rw [h]; rfl, h'⟩)
      (by rcases hhi with h | ⟨h, h'⟩; exact .inl h; exact .inr ⟨by rw [h]; rfl, h'⟩)
    simp only [execOp, hx, Instr.sliceAt, Sem.run_bind, run_underlying ht, Result.andThen_ok, Option.map_none, hr, Sem.run_pure]
  · rw [List.length_drop, List.length_take, e3]; omega
  · intro hp
    by_cases hcl : cap = l
    · omega
    · rw [if_neg hcl] at hp
      cases p with
      | none => have := h4 rfl; omega
      | some a => simp at hp
  · rw [if_neg (by omega)]
    obtain ⟨b, off, arr, T, fr, rfl, hA, hb, hc', he⟩ := h5 (by omega)
    refine ⟨b, off + l * s, arr, T, fr, by simp [add_off], hA, hb, ?_, fun i hi => ?_⟩
    · rw [Nat.add_assoc, e10]; assumption
    · rw [Nat.add_assoc, he (l * s + i) (by omega), List.getElem?_drop, List.getElem?_take]
      rw [if_pos (by omega)]
end Go.Lv

set_option linter.unusedVariables false
set_option linter.unusedSimpArgs false
namespace Go.Lv
variable {P : Program} {n : Nat} {ops : Array Oper} {rest : List Oper} {K : Env → World → Prop} {σ : Env} {w : World}
variable {d : Nat} {ty : TypeId} {pos : String} {after : Array Edge} {A : Reg} {F : List Fact} {L : List Mob}

/-- What an append asks of the element's type. -/
structure ElemOk (P : Program) (e : TypeId) (s : Nat) : Prop where
  ok : ∃ i z, P.info? e = some i ∧ i.size = s ∧ i.zero = some z ∧ z.cells.size = s ∧ i.bytes ≤ 4096
  pos : 0 < s
theorem ElemOk.size {e : TypeId} {s : Nat} (h : ElemOk P e s) : SizeIs P e s := let ⟨i, _, h1, h2, _⟩ := h.ok; ⟨i, h1, h2⟩

theorem Rd.first {s len cap : Nat} {p : Option Addr} {cs : List Value} (h : Rd A w s (.slice p len cap) cs) {w2 : World} (hw : w2.heap = w.heap) :
    (Builtin.firstCells s len (.slice p len cap)).run P w2 = .ok cs.toArray w2 := by
  obtain ⟨p', len', cap', e, h2, h3, h4, h5⟩ := h
  cases e
  cases p with
  | none =>
    have := h4 rfl
    have : cs = [] := List.eq_nil_of_length_eq_zero (by rw [h2]; have : len = 0 := by omega
                                                        subst this; simp)
    subst this
    exact run_firstCells_none _ _ _ _ _
  | some a =>
    by_cases hc : 0 < cap
    · obtain ⟨b, off, arr, T, fr, e, hA, hb, hc', he⟩ := h5 hc
      cases e
      refine run_firstCells_some w2 s len _ len cap cs h2 (fun j v hj => ?_)
      have hjl : j < len * s := by rw [← h2]; exact (List.getElem?_eq_some_iff.1 hj).1
      rw [add_off, cell_of (by rw [hw]; exact hb), he j hjl, hj]
    · have hz : len = 0 := by omega
      have : cs = [] := List.eq_nil_of_length_eq_zero (by rw [h2, hz]; simp)
      subst this
      exact run_firstCells_some w2 s len _ len cap [] (by simp [hz]) (fun j v hj => by simp at hj)

theorem own_rd {o : Option Nat} {s : Nat} {E : TypeId} {v : Value} {cs : List Value} (h : (Mob.own s E v cs).holds o w) : Rd (fun b => o = some b) w s v cs := by
  obtain ⟨p, len, cap, h1, h2, h3, h4, h5, h6⟩ := h
  refine ⟨p, len, cap, h1, h2, h3, h4, fun hc => ?_⟩
  cases o with
  | none => have := h5 rfl; omega
  | some b =>
    obtain ⟨arr, fr, e1, e2, e3, e4, e5⟩ := h6 b rfl
    exact ⟨b, 0, arr, E, fr, e1, rfl, e2, by omega, fun i hi => by rw [Nat.zero_add]; exact e5 i hi⟩
theorem St.own_rd (hs : St A w F L) {j s : Nat} {E : TypeId} {v : Value} {cs : List Value} (hL : L[j]? = some (.own s E v cs)) : Rd (fun _ => True) w s v cs := by
  obtain ⟨o, h⟩ := Mobs.mem (A := A) hs.mobs hL
  exact (Go.Lv.own_rd h).step (fun _ _ => trivial) (fun _ _ => rfl)
theorem St.rd (hs : St A w F L) {j s : Nat} {R : Reg} {v : Value} {cs : List Value} (hF : F[j]? = some (.rd R s v cs)) : Rd (fun _ => True) w s v cs :=
  (show Rd _ w s v cs from hs.fact j hF).step (fun _ _ => trivial) (fun _ _ => rfl)

/-- One mob's block changed in place. -/
theorem St.setMob (hs : St A w F L) {i b : Nat} {m m' : Mob} {o : Obj} (hL : L[i]? = some m) (hm : ∀ q, m.holds q w → q = some b ∨ q = none → (q = some b)) (hb : ∀ q, m.holds q w → q = some b)
    (hm' : m'.holds (some b) (setBlk w b o)) : St A (setBlk w b o) F (L.set i m') := by
  have h1 := hs.front hL
  refine St.back hL ?_
  obtain ⟨q, hq, h3, h4⟩ := h1.mobs
  cases hb q hq
  have hsz : (setBlk w b o).heap.size = w.heap.size := by simp [setBlk]
  have hne : ∀ c, c ≠ b → (setBlk w b o).heap[c]? = w.heap[c]? := fun c hc => by
    simp [setBlk, Array.getElem?_setIfInBounds_ne (Ne.symm hc)]
  have hnA := (h3 b rfl).1
  refine ⟨fun c hc => by rw [hsz]; exact hs.lt c hc, fun f hf => f.step (hs.facts f hf) (fun _ h => h) (fun c hc => hne c (fun e => hnA (e ▸ hc))) ⟨by rw [hsz]; exact Nat.le_refl _, rfl, rfl, rfl⟩, some b, hm', fun c hc => ⟨(h3 c hc).1, by rw [hsz]; exact (h3 c hc).2⟩, ?_⟩
  refine h4.step (by rw [hsz]; exact Nat.le_refl _) (fun c _ hc => hne c (fun e => hc (.inr (by rw [e]))))
/-- The same, where the mob's block is known. -/
theorem St.setMobAt {i b : Nat} {m m' : Mob} {o : Obj} (hs : St A w F L) (hL : L[i]? = some m) (hm : m.holds (some b) w) (hm' : m'.holds (some b) (setBlk w b o))
    (hq : Mobs w A (m :: L.eraseIdx i) → ∃ q, m.holds q w ∧ (∀ c, q = some c → ¬ A c ∧ c < w.heap.size) ∧ Mobs w (fun c => A c ∨ q = some c) (L.eraseIdx i) ∧ q = some b) : St A (setBlk w b o) F (L.set i m') := by
  have h1 := hs.front hL
  refine St.back hL ?_
  obtain ⟨q, _, h3, h4, rfl⟩ := hq h1.mobs
  have hsz : (setBlk w b o).heap.size = w.heap.size := by simp [setBlk]
  have hne : ∀ c, c ≠ b → (setBlk w b o).heap[c]? = w.heap[c]? := fun c hc => by
    simp [setBlk, Array.getElem?_setIfInBounds_ne (Ne.symm hc)]
  have hnA := (h3 b rfl).1
  refine ⟨fun c hc => by rw [hsz]; exact hs.lt c hc, fun f hf => f.step (hs.facts f hf) (fun _ h => h) (fun c hc => hne c (fun e => hnA (e ▸ hc))) ⟨by rw [hsz]; exact Nat.le_refl _, rfl, rfl, rfl⟩, some b, hm', fun c hc => ⟨(h3 c hc).1, by rw [hsz]; exact (h3 c hc).2⟩, ?_⟩
  refine h4.step (by rw [hsz]; exact Nat.le_refl _) (fun c _ hc => hne c (fun e => hc (.inr (by rw [e]))))
/-- A mob replaced by one in a new block. -/
theorem St.newFor (hs : St A w F L) {i : Nat} {m m' : Mob} {o : Obj} (hL : L[i]? = some m) (hm' : m'.holds (some w.heap.size) (newBlk w o)) : St A (newBlk w o) F (L.set i m') :=
  St.back hL ((hs.front hL).dropM.newMob o m' hm')
theorem St.drewn (hs : St A w F L) : St A w.drew F L := hs.keep ⟨fun _ _ => rfl, Nat.le_refl _, rfl, rfl, rfl⟩
/-- A mob that needs no block any more, or another word for the same. -/
theorem St.renameMob (hs : St A w F L) {i : Nat} {m m' : Mob} (hL : L[i]? = some m) (hm : ∀ q, m.holds q w → ∃ q', m'.holds q' w ∧ (q' = q ∨ q' = none)) : St A w F (L.set i m') := by
  have h1 := hs.front hL
  refine St.back hL ⟨hs.lt, hs.facts, ?_⟩
  obtain ⟨q, hq, h3, h4⟩ := h1.mobs
  obtain ⟨q', hq', h⟩ := hm q hq
  refine ⟨q', hq', fun b hb => ?_, h4.anti ?_⟩
  · rcases h with rfl | rfl
    · exact h3 b hb
    · cases hb
  · rcases h with rfl | rfl
    · exact fun _ h => h
    · exact fun b hb => hb.elim .inl (fun h => by cases h)

/-- Where the cells come from that are put behind. -/
structure Src (P : Program) (w : World) (t2 : TypeId) (vy : Value) (s ly : Nat) (ys : List Value) : Prop where
  u : ∃ u, P.underlying t2 = some u ∧ ((∃ e2, u = .slice e2) ∨ u = .string)
  len : ∀ w2, (Builtin.lenOf vy).run P w2 = .ok ly w2
  first : ∀ w2 : World, w2.heap = w.heap → (Builtin.firstCells s ly vy).run P w2 = .ok ys.toArray w2
theorem Src.slice {t2 : TypeId} {vy : Value} {s ly : Nat} {ys : List Value} (ht2 : ∃ e2, P.underlying t2 = some (.slice e2)) (hy : Rd (fun _ => True) w s vy ys) (hly : ys.length = ly * s) (hp : 0 < s) : Src P w t2 vy s ly ys := by
  obtain ⟨py, leny, capy, rfl, g2, g3, g4, g5⟩ := hy
  have e2' : leny = ly := Nat.eq_of_mul_eq_mul_right hp (g2.symm.trans hly)
  subst e2'
  obtain ⟨e2, ht2⟩ := ht2
  exact ⟨⟨_, ht2, .inl ⟨_, rfl⟩⟩, fun _ => by simp [Builtin.lenOf], fun w2 hw => Rd.first (A := fun _ => True) ⟨py, leny, capy, rfl, g2, g3, g4, g5⟩ hw⟩
theorem append_own {x y : Operand} {t t2 e : TypeId} {s i lx ly : Nat} {vx vy : Value} {cs ys : List Value} (ht : P.underlying t = some (.slice e)) (he : ElemOk P e s)
    (hs : St A w F L) (hL : L[i]? = some (.own s e vx cs)) (hsrc : Src P w t2 vy s ly ys) (h1 : ys.all (·.oneCell') = true) (hlx : cs.length = lx * s) (hly : ys.length = ly * s) (hlim : lx + ly ≤ LIM) :
    ∃ v' w', (Builtin.append_ #[t, t2] ty #[vx, vy]).run P w = .ok v' w' ∧ St A w' F (L.set i (.own s e v' (cs ++ ys))) := by
  have hfr := hs.front hL
  obtain ⟨o, hown, _, _⟩ := hfr.mobs
  have hxr := Go.Lv.own_rd hown
  obtain ⟨p, len, cap, rfl, h2, h3, h4, h5, h6⟩ := hown
  obtain ⟨ti, z, hi, hsz, hz, hzs, hby⟩ := he.ok
  obtain ⟨u, ht2, hu⟩ := hsrc.u
  have hlen := hsrc.len
  have e1 : len = lx := Nat.eq_of_mul_eq_mul_right he.pos (h2.symm.trans hlx)
  subst e1; subst hsz
  have hLIM : LIM = 17179869184 := rfl
  rw [hLIM] at hlim
  by_cases hroom : len + ly ≤ cap
  · by_cases hn : ly = 0
    · -- nothing is put behind it
      subst hn
      have hys : ys = [] := List.eq_nil_of_length_eq_zero (by simpa using hly)
      subst hys
      have hf := hsrc.first w rfl
      refine ⟨.slice p len cap, w, ?_, ?_⟩
      · rcases hu with ⟨e2, rfl⟩ | rfl <;> cases p <;> simp [Builtin.append_, run_underlying ht, run_underlying ht2, sizeOf, typeInfo, hi, hlen, hf, h3, storeCells]
      · rw [List.append_nil]
        have : L.set i (.own ti.size e (.slice p len cap) cs) = L := by
          apply List.ext_getElem?; intro j
          by_cases hj : i = j
          · subst hj; rw [List.getElem?_set_self' ]; simp [hL]
          · rw [List.getElem?_set_ne hj]
        rw [this]; exact hs
    · -- there is room
      cases o with
      | none => have := h5 rfl; omega
      | some b =>
        obtain ⟨arr, fr, rfl, hb, hsz', hfz, hcells⟩ := h6 b rfl
        have hf := hsrc.first w rfl
        have hst := run_storeCells_blk (P := P) b e fr ys (len * ti.size) 0 arr.toList w (by simpa using hb)
          (by have := Nat.mul_le_mul_right ti.size hroom; rw [Nat.add_mul] at this; simp; omega) (by simp; rcases hfz with h | h; exact .inr (.inr (Nat.le_of_eq h.symm)); exact .inr (.inl h)) (fun v hv => List.all_eq_true.1 h1 v hv)
        refine ⟨.slice (some ⟨b, 0, none⟩) (len + ly) cap, setBlk w b (.cells (splice arr.toList (len * ti.size) ys).toArray e fr), ?_, ?_⟩
        · rcases hu with ⟨e2, rfl⟩ | rfl <;> (simp [Builtin.append_, run_underlying ht, run_underlying ht2, sizeOf, typeInfo, hi, hlen, hf, hroom, add_off] at hst ⊢; simp [hst])
        · have hbl := lt_of_heap hb
          have hal : arr.toList.length = arr.size := by simp
          have hcle : len * ti.size + ly * ti.size ≤ arr.toList.length := by
            have := Nat.mul_le_mul_right ti.size hroom; rw [Nat.add_mul] at this; simp; omega
          refine hs.setMobAt hL (b := b) ⟨_, len, cap, rfl, h2, h3, h4, h5, h6⟩ ?_ ?_
          · refine ⟨_, len + ly, cap, rfl, by rw [List.length_append, Nat.add_mul]; omega, hroom, by simp, by simp, fun b' hb' => ?_⟩
            cases hb'
            refine ⟨(splice arr.toList (len * ti.size) ys).toArray, fr, rfl, by simp [setBlk, hbl], ?_, ?_, fun j hj => ?_⟩
            · simp only [List.size_toArray]; rw [splice_length (by omega)]; simpa using hsz'
            · simp only [List.size_toArray]; rw [splice_length (by omega)]; simpa using hfz
            · rw [Nat.add_mul] at hj
              simp only [List.getElem?_toArray, splice, List.getElem?_append, List.length_take]
              by_cases hj1 : j < len * ti.size
              · rw [if_pos (by omega), if_pos (by omega), List.getElem?_take, if_pos hj1]
                have := hcells j hj1
                simpa using this
              · have hmin : min (len * ti.size) arr.toList.length = len * ti.size := by omega
                rw [hmin, if_neg hj1, if_neg (show ¬ j < cs.length by omega), if_pos (show j - len * ti.size < ys.length by omega), h2]
          · rintro ⟨q, hq, q1, q2⟩
            refine ⟨q, hq, q1, q2, ?_⟩
            obtain ⟨_, _, _, eq, _, _, _, k5, k6⟩ := hq
            cases q with
            | none => cases eq; have := k5 rfl; omega
            | some c => obtain ⟨_, _, k7, _⟩ := k6 c rfl; cases eq; cases k7; rfl
  · -- a new row
    have hf := hsrc.first w.drew rfl
    have hfo := hxr.first (P := P) (w2 := w.drew) rfl
    have h63' : ¬ (9223372036854775807 < ((len : Int) + (ly : Int))) := by omega
    have hbb : (len + ly) * ti.bytes ≤ 140737488355328 := by
      have := Nat.mul_le_mul hlim hby; omega
    have h48' : ¬ (281474976710656 < Builtin.nextslicecap (len + ly) cap * ti.bytes) := by
      have := growslice_fits (by omega : cap < len + ly) hbb; omega
    have hge : len + ly ≤ grownCap w (len + ly) cap e := by simp [grownCap, Question.cut]
    refine ⟨.slice (some ⟨w.heap.size, 0, none⟩) (len + ly) (grownCap w (len + ly) cap e),
      newBlk w.drew (.cells (cs ++ ys ++ (Builtin.zeroCells z.cells (grownCap w (len + ly) cap e - (len + ly))).toList).toArray e), ?_, ?_⟩
    · have harr : ∀ (a b : List Value) (zz : Array Value), (a ++ b ++ zz.toList).toArray = a.toArray ++ (b.toArray ++ zz) := fun a b zz => by
        apply Array.ext'; simp
      rw [harr]
      rcases hu with ⟨e2, rfl⟩ | rfl <;> (simp [Builtin.append_, run_underlying ht, run_underlying ht2, sizeOf, typeInfo, zeroValue, hi, hz, hlen, hroom, h63', h48', Question.forced, hf, hfo, newRow, newObj, grownCap]; simp only [Sem.run, Result.andThen_ok]; simp [newBlk])
    · refine hs.drewn.newFor hL ⟨_, len + ly, _, rfl, by rw [List.length_append, Nat.add_mul]; omega, hge, by simp, by simp, fun b hb => ?_⟩
      cases hb
      refine ⟨_, (0, 0), rfl, newBlk_new _ _, ?_, .inl rfl, fun j hj => ?_⟩
      · have : (Builtin.zeroCells z.cells (grownCap w (len + ly) cap e - (len + ly))).size = (grownCap w (len + ly) cap e - (len + ly)) * ti.size := by simp [Builtin.zeroCells, hzs]
        simp only [List.size_toArray, List.length_append, Array.length_toList, this, h2, hly, Nat.sub_mul]
        have := Nat.mul_le_mul_right ti.size hge
        rw [Nat.add_mul] at this ⊢
        omega
      · rw [Nat.add_mul] at hj
        simp only [List.getElem?_toArray]
        rw [List.getElem?_append_left (by simp; omega)]
end Go.Lv

set_option linter.unusedVariables false
set_option linter.unusedSimpArgs false
namespace Go.Lv
variable {P : Program} {n : Nat} {ops : Array Oper} {rest : List Oper} {K : Env → World → Prop} {σ : Env} {w : World}
variable {d : Nat} {ty : TypeId} {pos : String} {after : Array Edge} {A : Reg} {F : List Fact} {L : List Mob}
theorem append_zeros {x y : Operand} {t t2 e : TypeId} {s i lx ly : Nat} {vx : Value} {cs ys : List Value} (ht : P.underlying t = some (.slice e)) (he : ElemOk P e s)
    (hs : St A w F L) (hL : L[i]? = some (.own s e vx cs)) (hk : ∃ k, P.underlying t2 = some (.int k)) (hyz : ∀ i z, P.info? e = some i → i.zero = some z → ys.toArray = Builtin.zeroCells z.cells ly) (h1 : ys.all (·.oneCell') = true) (hlx : cs.length = lx * s) (hly : ys.length = ly * s) (hlim : lx + ly ≤ LIM) :
    ∃ v' w', (Builtin.append_ #[t, t2] ty #[vx, .int .i64 (ly : Int)]).run P w = .ok v' w' ∧ St A w' F (L.set i (.own s e v' (cs ++ ys))) := by
  have hfr := hs.front hL
  obtain ⟨o, hown, _, _⟩ := hfr.mobs
  have hxr := Go.Lv.own_rd hown
  obtain ⟨p, len, cap, rfl, h2, h3, h4, h5, h6⟩ := hown
  obtain ⟨ti, z, hi, hsz, hz, hzs, hby⟩ := he.ok
  obtain ⟨k, ht2⟩ := hk
  have hyz := hyz _ _ hi hz
  have hLIM' : LIM = 17179869184 := rfl
  have hw64 : IntKind.i64.wrap (ly : Int) = (ly : Int) := wrap64_id (by omega) (by rw [hLIM'] at hlim; omega)
  have hneg : ¬ ((ly : Int) < 0) := by omega
  have hb48 : ¬ (281474976710656 < (ly : Int) * (ti.bytes : Int)) := by
    have h1 : ly * ti.bytes ≤ 17179869184 * 4096 := Nat.mul_le_mul (by rw [hLIM'] at hlim; omega) hby
    have h2 : (ly : Int) * (ti.bytes : Int) = ((ly * ti.bytes : Nat) : Int) := by simp
    rw [h2]; omega
  have e1 : len = lx := Nat.eq_of_mul_eq_mul_right he.pos (h2.symm.trans hlx)
  subst e1; subst hsz
  have hLIM : LIM = 17179869184 := rfl
  rw [hLIM] at hlim
  by_cases hroom : len + ly ≤ cap
  · by_cases hn : ly = 0
    · -- nothing is put behind it
      subst hn
      have hys : ys = [] := List.eq_nil_of_length_eq_zero (by simpa using hly)
      subst hys
      refine ⟨.slice p len cap, w, ?_, ?_⟩
      · cases p <;> simp [Builtin.append_, run_underlying ht, run_underlying ht2, sizeOf, typeInfo, hi, asInt, asIntOf, (by decide : IntKind.i64.wrap 0 = 0), hw64, hneg, hb48, h3, storeCells]
      · rw [List.append_nil]
        have : L.set i (.own ti.size e (.slice p len cap) cs) = L := by
          apply List.ext_getElem?; intro j
          by_cases hj : i = j
          · subst hj; rw [List.getElem?_set_self' ]; simp [hL]
          · rw [List.getElem?_set_ne hj]
        rw [this]; exact hs
    · -- there is room
      cases o with
      | none => have := h5 rfl; omega
      | some b =>
        obtain ⟨arr, fr, rfl, hb, hsz', hfz, hcells⟩ := h6 b rfl
        have hst := run_storeCells_blk (P := P) b e fr ys (len * ti.size) 0 arr.toList w (by simpa using hb)
          (by have := Nat.mul_le_mul_right ti.size hroom; rw [Nat.add_mul] at this; simp; omega) (by simp; rcases hfz with h | h; exact .inr (.inr (Nat.le_of_eq h.symm)); exact .inr (.inl h)) (fun v hv => List.all_eq_true.1 h1 v hv)
        refine ⟨.slice (some ⟨b, 0, none⟩) (len + ly) cap, setBlk w b (.cells (splice arr.toList (len * ti.size) ys).toArray e fr), ?_, ?_⟩
        · have h00 : ¬ (ly * ti.size = 0) := fun h => by have hpp := he.pos; rcases Nat.mul_eq_zero.1 h with h | h <;> omega
          simp [Builtin.append_, run_underlying ht, run_underlying ht2, sizeOf, typeInfo, zeroValue, hi, hz, asInt, asIntOf, (by decide : IntKind.i64.wrap 0 = 0), hw64, hneg, hb48, hroom, add_off, h00, ← hyz] at hst ⊢; simp [hst]
        · have hbl := lt_of_heap hb
          have hal : arr.toList.length = arr.size := by simp
          have hcle : len * ti.size + ly * ti.size ≤ arr.toList.length := by
            have := Nat.mul_le_mul_right ti.size hroom; rw [Nat.add_mul] at this; simp; omega
          refine hs.setMobAt hL (b := b) ⟨_, len, cap, rfl, h2, h3, h4, h5, h6⟩ ?_ ?_
          · refine ⟨_, len + ly, cap, rfl, by rw [List.length_append, Nat.add_mul]; omega, hroom, by simp, by simp, fun b' hb' => ?_⟩
            cases hb'
            refine ⟨(splice arr.toList (len * ti.size) ys).toArray, fr, rfl, by simp [setBlk, hbl], ?_, ?_, fun j hj => ?_⟩
            · simp only [List.size_toArray]; rw [splice_length (by omega)]; simpa using hsz'
            · simp only [List.size_toArray]; rw [splice_length (by omega)]; simpa using hfz
            · rw [Nat.add_mul] at hj
              simp only [List.getElem?_toArray, splice, List.getElem?_append, List.length_take]
              by_cases hj1 : j < len * ti.size
              · rw [if_pos (by omega), if_pos (by omega), List.getElem?_take, if_pos hj1]
                have := hcells j hj1
                simpa using this
              · have hmin : min (len * ti.size) arr.toList.length = len * ti.size := by omega
                rw [hmin, if_neg hj1, if_neg (show ¬ j < cs.length by omega), if_pos (show j - len * ti.size < ys.length by omega), h2]
          · rintro ⟨q, hq, q1, q2⟩
            refine ⟨q, hq, q1, q2, ?_⟩
            obtain ⟨_, _, _, eq, _, _, _, k5, k6⟩ := hq
            cases q with
            | none => cases eq; have := k5 rfl; omega
            | some c => obtain ⟨_, _, k7, _⟩ := k6 c rfl; cases eq; cases k7; rfl
  · -- a new row
    have hfo := hxr.first (P := P) (w2 := w.drew) rfl
    have h63' : ¬ (9223372036854775807 < ((len : Int) + (ly : Int))) := by omega
    have hbb : (len + ly) * ti.bytes ≤ 140737488355328 := by
      have := Nat.mul_le_mul hlim hby; omega
    have h48' : ¬ (281474976710656 < Builtin.nextslicecap (len + ly) cap * ti.bytes) := by
      have := growslice_fits (by omega : cap < len + ly) hbb; omega
    have hge : len + ly ≤ grownCap w (len + ly) cap e := by simp [grownCap, Question.cut]
    refine ⟨.slice (some ⟨w.heap.size, 0, none⟩) (len + ly) (grownCap w (len + ly) cap e),
      newBlk w.drew (.cells (cs ++ ys ++ (Builtin.zeroCells z.cells (grownCap w (len + ly) cap e - (len + ly))).toList).toArray e), ?_, ?_⟩
    · have harr : ∀ (a b : List Value) (zz : Array Value), (a ++ b ++ zz.toList).toArray = a.toArray ++ (b.toArray ++ zz) := fun a b zz => by
        apply Array.ext'; simp
      rw [harr]
      have h00 : ¬ (ly * ti.size = 0) := fun h => by have hpp := he.pos; rcases Nat.mul_eq_zero.1 h with h | h <;> omega
      simp [Builtin.append_, run_underlying ht, run_underlying ht2, sizeOf, typeInfo, zeroValue, hi, hz, asInt, asIntOf, (by decide : IntKind.i64.wrap 0 = 0), hw64, hneg, hb48, hroom, h63', h48', Question.forced, hfo, newRow, newObj, grownCap, h00, ← hyz]; simp only [Sem.run, Result.andThen_ok]; simp [newBlk]
    · refine hs.drewn.newFor hL ⟨_, len + ly, _, rfl, by rw [List.length_append, Nat.add_mul]; omega, hge, by simp, by simp, fun b hb => ?_⟩
      cases hb
      refine ⟨_, (0, 0), rfl, newBlk_new _ _, ?_, .inl rfl, fun j hj => ?_⟩
      · have : (Builtin.zeroCells z.cells (grownCap w (len + ly) cap e - (len + ly))).size = (grownCap w (len + ly) cap e - (len + ly)) * ti.size := by simp [Builtin.zeroCells, hzs]
        simp only [List.size_toArray, List.length_append, Array.length_toList, this, h2, hly, Nat.sub_mul]
        have := Nat.mul_le_mul_right ti.size hge
        rw [Nat.add_mul] at this ⊢
        omega
      · rw [Nat.add_mul] at hj
        simp only [List.getElem?_toArray]
        rw [List.getElem?_append_left (by simp; omega)]
end Go.Lv

set_option linter.unusedVariables false
set_option linter.unusedSimpArgs false
namespace Go.Lv
variable {P : Program} {n : Nat} {ops : Array Oper} {rest : List Oper} {K : Env → World → Prop} {σ : Env} {w : World}
variable {d : Nat} {ty : TypeId} {pos : String} {after : Array Edge} {A : Reg} {F : List Fact} {L : List Mob}

theorem WL.appendSrc {x y : Operand} {t t2 e : TypeId} {s i lx ly : Nat} {vx vy : Value} {cs ys : List Value} {L' : Option Addr → Nat → Nat → List Mob} (ht : P.underlying t = some (.slice e)) (he : ElemOk P e s)
    (hs : St A w F L) (hL : L[i]? = some (.own s e vx cs)) (hd : Nat.blt d n = true) (hx : ev σ x = vx) (hy : ev σ y = vy) (hsrc : Src P w t2 vy s ly ys) (h1 : ys.all (·.oneCell') = true)
    (hlx : cs.length = lx * s) (hly : ys.length = ly * s) (hlim : lx + ly ≤ LIM) (hL' : ∀ p l c, L.set i (.own s e (.slice p l c) (cs ++ ys)) = L' p l c) (h : ∀ p l c w', St A w' F (L' p l c) → WL P n ops rest K (upd σ d (.slice p l c)) w') :
    WL P n ops (⟨some d, .call ⟨.builtin .append, #[x, y], #[t, t2]⟩, ty, pos, after, none⟩ :: rest) K σ w := by
  obtain ⟨v', w', hr, hs'⟩ := append_own (P := P) (ty := ty) (x := x) (y := y) ht he hs hL hsrc h1 hlx hly hlim
  obtain ⟨p, l, c, rfl⟩ : ∃ p l c, v' = .slice p l c := by
    have hlt : i < L.length := (List.getElem?_eq_some_iff.1 hL).1
    obtain ⟨o, ho⟩ := Mobs.mem (A := A) hs'.mobs (show (L.set i (.own s e v' (cs ++ ys)))[i]? = some (.own s e v' (cs ++ ys)) by simp [hlt])
    obtain ⟨p, l, c, h, _⟩ := ho; exact ⟨p, l, c, h⟩
  refine .val rfl rfl hd (v := .slice p l c) (w' := w') ?_ (h p l c w' (hL' p l c ▸ hs'))
  simp [execOp, resolve, invoke, builtin, hx, hy, hr]
theorem WL.append {x y : Operand} {t t2 e : TypeId} {s i lx ly : Nat} {vx vy : Value} {cs ys : List Value} {L' : Option Addr → Nat → Nat → List Mob} (ht : P.underlying t = some (.slice e)) (ht2 : ∃ e2, P.underlying t2 = some (.slice e2)) (he : ElemOk P e s)
    (hs : St A w F L) (hL : L[i]? = some (.own s e vx cs)) (hd : Nat.blt d n = true) (hx : ev σ x = vx) (hy : ev σ y = vy) (hyr : Rd (fun _ => True) w s vy ys) (h1 : ys.all (·.oneCell') = true)
    (hlx : cs.length = lx * s) (hly : ys.length = ly * s) (hlim : lx + ly ≤ LIM) (hL' : ∀ p l c, L.set i (.own s e (.slice p l c) (cs ++ ys)) = L' p l c) (h : ∀ p l c w', St A w' F (L' p l c) → WL P n ops rest K (upd σ d (.slice p l c)) w') :
    WL P n ops (⟨some d, .call ⟨.builtin .append, #[x, y], #[t, t2]⟩, ty, pos, after, none⟩ :: rest) K σ w :=
  WL.appendSrc ht he hs hL hd hx hy (Src.slice ht2 hyr hly he.pos) h1 hlx hly hlim hL' h
/-- A slice that nobody writes any more is only read from now on. -/
theorem St.freeze (hs : St A w F L) {i s : Nat} {E : TypeId} {v : Value} {cs : List Value} {L' : List Mob} (hL : L[i]? = some (.own s E v cs)) (hL' : L.eraseIdx i = L') (R : Reg) (hR : ∀ b, ¬ A b → R b) :
    ∃ A', (∀ b, A b → A' b) ∧ St A' w (.rd R s v cs :: F) L' := by
  subst hL'
  obtain ⟨o, ho, h3, h4⟩ := (hs.front hL).mobs
  have hrd := Go.Lv.own_rd ho
  refine ⟨fun b => A b ∨ o = some b, fun _ h => .inl h, fun b hb => hb.elim (hs.lt b) (fun h => (h3 b h).2), fun f hf => ?_, h4⟩
  cases hf with
  | head => exact hrd.step (fun b hb => ⟨.inr hb, hR b (h3 b hb).1⟩) (fun _ _ => rfl)
  | tail _ hf => exact f.step (hs.facts f hf) (fun _ h => .inl h) (fun _ _ => rfl) (.refl _)
/-- An empty slice owns nothing. -/
theorem St.addNil (hs : St A w F L) (s : Nat) (E : TypeId) : St A w F (.own s E (.slice none 0 0) [] :: L) :=
  ⟨hs.lt, hs.facts, none, ⟨none, 0, 0, rfl, by simp, Nat.le_refl _, fun _ => rfl, fun _ => rfl, fun b hb => by cases hb⟩, (fun b hb => by cases hb), hs.mobs.anti (fun b hb => hb.elim id (fun h => by cases h))⟩
theorem St.nilRd (hs : St A w F L) (s : Nat) (R : Reg) : St A w (.rd R s (.slice none 0 0) [] :: F) L := hs.addF Rd.nil
theorem St.addRd (hs : St A w F L) {R : Reg} {s : Nat} {v : Value} {cs : List Value} (h : Rd (fun b => A b ∧ R b) w s v cs) : St A w (.rd R s v cs :: F) L := hs.addF h

theorem splice_nil (acc : List Value) (off : Nat) : splice acc off [] = acc := by simp [splice]
theorem fold_splice (off : Nat) : ∀ (cs : List Value) (j : Nat) (acc : List Value), off + j + cs.length ≤ acc.length →
    (cs.zipIdx j).foldl (fun (a : Array Value) (p : Value × Nat) => a.setIfInBounds (off + p.2) p.1) acc.toArray = (splice acc (off + j) cs).toArray
  | [], j, acc, _ => by simp [splice_nil]
  | c :: cs, j, acc, h => by
    simp only [List.length_cons] at h
    simp only [List.zipIdx_cons, List.foldl_cons]
    rw [List.setIfInBounds_toArray]
    have := fold_splice off cs (j + 1) (acc.set (off + j) c) (by simp; omega)
    rw [this, ← Nat.add_assoc, splice_cons (by simp; omega)]
theorem fill_gen (s : Nat) : ∀ (vs : List Value) (k : Nat) (acc : List Value), (∀ v ∈ vs, v.cells.size = s) → acc.length = (k + vs.length) * s →
    Instr.fill (fun i => some (i * s, s)) acc.toArray ((vs.zipIdx k).map fun p => (p.2, p.1)) = some (acc.take (k * s) ++ (vs.map (·.cells.toList)).flatten).toArray
  | [], k, acc, _, hl => by
    have : acc.take (k * s) = acc := List.take_of_length_le (by simp at hl; omega)
    simp [Instr.fill, this]
  | v :: vs, k, acc, hv, hl => by
    have h1 := hv v (.head _)
    have hl' : acc.length = k * s + s + vs.length * s := by rw [hl, List.length_cons, Nat.add_mul, Nat.add_mul]; omega
    have hf := fold_splice (k * s) v.cells.toList 0 acc (by simp; omega)
    have hfold : v.cells.zipIdx.foldl (fun cs (x : Value × Nat) => cs.setIfInBounds (k * s + x.2) x.1) acc.toArray = (splice acc (k * s) v.cells.toList).toArray := by
      rw [← Array.foldl_toList, Array.toList_zipIdx]; simpa using hf
    have hrec := fill_gen s vs (k + 1) (splice acc (k * s) v.cells.toList) (fun u hu => hv u (.tail _ hu)) (by rw [splice_length (by simp; omega), hl, List.length_cons]; congr 1; omega)
    simp only [List.zipIdx_cons, List.map_cons, Instr.fill]
    have hc : (decide (v.cells.size ≠ s) || decide (k * s + v.cells.size > acc.toArray.size)) = false := by simp; omega
    rw [if_neg (by rw [hc]; simp)]
    show Instr.fill _ (v.cells.zipIdx.foldl (fun cs (x : Value × Nat) => cs.setIfInBounds (k * s + x.2) x.1) acc.toArray) _ = _
    rw [hfold, hrec]
    congr 2
    have e1 : (k + 1) * s = k * s + v.cells.toList.length := by rw [Nat.succ_mul]; simp [h1]
    rw [e1, List.flatten_cons, ← List.append_assoc]
    congr 1
    simp only [splice]
    rw [← List.append_assoc, List.take_append_of_le_length (by simp; omega), List.take_of_length_le (by simp; omega)]
theorem zeros_len (z : Array Value) (m : Nat) : ∃ zs : List Value, ((Array.range m).map fun x => z[x % z.size]!) = zs.toArray ∧ zs.length = m :=
  ⟨((Array.range m).map fun x => z[x % z.size]!).toList, by rw [Array.toArray_toList], by simp⟩
/-- A slice written out. -/
theorem WL.buildSlice {t e : TypeId} {len s : Nat} {parts : List (Nat × Operand)} {vs cells : List Value} (ht : P.underlying t = some (.slice e)) (he : ElemOk P e s) (hs : St A w F L) (hd : Nat.blt d n = true)
    (hp : (parts.map fun p => (p.1, ev σ p.2)) = (vs.zipIdx 0).map fun p => (p.2, p.1)) (hl : vs.length = len) (hlen : Nat.ble (len * s) 4096 = true) (h1 : ∀ v ∈ vs, v.cells.size = s)
    (hcells : (vs.map (·.cells.toList)).flatten = cells)
    (h : ∀ p l c w', St A w' F (.own s e (.slice p l c) cells :: L) → WL P n ops rest K (upd σ d (.slice p l c)) w') :
    WL P n ops (⟨some d, .buildSlice t len parts.toArray, ty, pos, after, none⟩ :: rest) K σ w := by
  subst hl
  have hlen' : vs.length * s ≤ 4096 := by simpa using hlen
  obtain ⟨ti, z, hi, hsz, hz, hzs, hby⟩ := he.ok
  have hcl : cells.length = vs.length * s := by
    rw [← hcells]
    clear hp h hcells hlen hlen'
    induction vs with
    | nil => simp
    | cons v vs ih =>
      simp only [List.map_cons, List.flatten_cons, List.length_append, List.length_cons, Array.length_toList]
      rw [ih (fun u hu => h1 u (.tail _ hu)), h1 v (.head _), Nat.succ_mul]; omega
  have hrun : (newRow e cells.toArray).run P w = .ok ⟨w.heap.size, 0, none⟩ (newBlk w (.cells cells.toArray e)) := rfl
  have hfz : ∀ z0 : Array Value, Instr.fill (fun i => some (i * s, s)) (Array.map (fun x => z0[x % z0.size]!) (Array.range (vs.length * s))) ((vs.zipIdx 0).map fun p => (p.2, p.1)) = some cells.toArray := fun z0 => by
    obtain ⟨zs, hzs1, hzs2⟩ := zeros_len z0 (vs.length * s)
    have hf := fill_gen s vs 0 zs h1 (by rw [hzs2]; simp)
    simp only [Nat.zero_mul, List.take_zero, List.nil_append, hcells] at hf
    rw [hzs1, hf]
  have hzv : (zeroValue e).run P w = .ok z w := by simp [zeroValue, typeInfo, hi, hz]
  refine .val rfl rfl hd (v := .slice (some ⟨w.heap.size, 0, none⟩) vs.length vs.length) (w' := newBlk w (.cells cells.toArray e)) ?_ (h _ _ _ _ (hs.newMob _ _ ⟨_, vs.length, vs.length, rfl, hcl, Nat.le_refl _, by simp, by simp, fun b hb => ?_⟩))
  · simp only [execOp, Instr.buildSlice, Sem.run_bind, run_underlying ht, Result.andThen_ok, run_sizeOf_of he.size]
    rw [if_neg (by omega)]
    have hp2 : (Array.map (fun (x : Nat × Operand) => (x.1, ev σ x.2)) parts.toArray).toList = (vs.zipIdx 0).map fun p => (p.2, p.1) := by rw [List.map_toArray, hp]
    rw [hp2]
    split <;> simp only [Sem.run_bind, Sem.run_pure, hzv, Result.andThen_ok, hfz, hrun]
  · cases hb
    exact ⟨cells.toArray, (0, 0), rfl, newBlk_new _ _, by simpa using hcl, .inl rfl, fun i hi => by simp⟩
end Go.Lv

set_option linter.unusedVariables false
set_option linter.unusedSimpArgs false
namespace Go.Lv
variable {P : Program} {n : Nat} {ops : Array Oper} {rest : List Oper} {K : Env → World → Prop} {σ : Env} {w : World}
variable {d : Nat} {ty : TypeId} {pos : String} {after : Array Edge} {A : Reg} {F : List Fact} {L : List Mob}

def envOf (l : List Value) : Env := fun t => l.getD t undef
/-- One result, as it stands at the end. -/
def ResOne (P : Program) (σ : Env) (w : World) : ResultVar → Value → Prop
  | .tmp t, v => σ t = v
  | .cell a t, v => ∃ ad, σ a = .pointer (some ad) ∧ (loadVar t ad).run P w = .ok v w
def ResAll (P : Program) (σ : Env) (w : World) : List ResultVar → List Value → Prop
  | [], [] => True
  | r :: rs, v :: vs => ResOne P σ w r v ∧ ResAll P σ w rs vs
  | _, _ => False
def packRes (vs : List Value) : Value := match vs with | [v] => v | _ => .tuple vs.toArray
def resRun (tmps : Array Value) : ResultVar → Sem Value
  | .tmp t => pure (tmps.getD t undef)
  | .cell a t => do loadVar t (← asAddr (tmps.getD a undef))
theorem run_resRun {a : Act} {r : ResultVar} {v : Value} (ha : Fits n a σ) (h : ResOne P σ w r v) : (resRun a.tmps r).run P w = .ok v w := by
  cases r with
  | tmp t =>
    simp only [ResOne] at h
    simp only [resRun, ha.get, h, Sem.run_pure]
  | cell ad t =>
    obtain ⟨x, h4, h5⟩ := h
    simp only [resRun, ha.get, h4, asAddr, Sem.run_bind, Sem.run_pure, Result.andThen_ok, h5]
theorem run_resAll {a : Act} (ha : Fits n a σ) : ∀ (rs : List ResultVar) (vs : List Value), ResAll P σ w rs vs → (rs.mapM (resRun a.tmps)).run P w = .ok vs w
  | [], [], _ => rfl
  | [], _ :: _, h => h.elim
  | _ :: _, [], h => h.elim
  | r :: rs, v :: vs, ⟨h1, h2⟩ => by
    have h3 := run_resAll ha rs vs h2
    simp only [List.mapM_cons, Sem.run_bind, run_resRun ha h1, Result.andThen_ok, h3, Sem.run_pure]
theorem run_results {fn : Func} {rs : List ResultVar} {a : Act} {vs : List Value} (hr : fn.results = rs.toArray) (ha : Fits n a σ) (h : ResAll P σ w rs vs) :
    (results fn a.tmps).run P w = .ok (packRes vs) w := by
  have hk := run_resAll ha rs vs h
  have e : results fn a.tmps = (do let vs ← fn.results.mapM (resRun a.tmps); pure (if h : vs.size = 1 then vs[0] else .tuple vs)) := rfl
  rw [e, hr, List.mapM_toArray]
  simp only [Sem.run_bind, map_eq_pure_bind, Sem.run_pure, Result.andThen_ok, hk]
  congr 1
  match vs with
  | [] => rfl
  | [v] => rfl
  | a :: b :: r => simp [packRes]
theorem calls_of_W {f : FuncId} {fn : Func} {c : Code} {rs : List ResultVar} {vs : List Value} {R : Ending → World → Prop} (hf : P.funcs[f]? = some fn) (hb : fn.body = some c) (hn : fn.ntmps = n) (hr : fn.results = rs.toArray)
    (hle : Nat.ble vs.length n = true)
    (h : W P n c (fun e σ' w' => (e = .ret ∨ e = .normal) ∧ ∃ us, ResAll P σ' w' rs us ∧ R (.returned (packRes us)) w') (envOf vs) w) : Calls P f vs.toArray w R := by
  subst hn
  have hle' : vs.length ≤ fn.ntmps := by simpa using hle
  refine calls_of_wp hf hb (wp_mono (h _ ⟨by simp; omega, rfl, fun t => ?_⟩) ?_)
  · simp only [envOf, Array.getD_eq_getD_getElem?, List.getD_eq_getElem?_getD, Array.getElem?_append, List.size_toArray, List.getElem?_toArray]
    by_cases ht : t < vs.length
    · simp [ht]
    · rw [if_neg ht, List.getElem?_eq_none (by omega)]
      by_cases h2 : t - vs.length < fn.ntmps - vs.length
      · simp [Array.getElem?_replicate, h2]
      · simp [Array.getElem?_replicate, h2]
  · rintro e a' w' ⟨σ', hf', hh, us, h1, h2⟩
    have hres := run_results (P := P) (w := w') hr hf' h1
    rcases hh with rfl | rfl <;> exact ⟨hf'.defers, _, hres, h2⟩

/-- The state at the beginning of a call: everything that is there is only read. -/
theorem St.start (w : World) : St (fun b => b < w.heap.size) w [.old (fun _ => False) w] [] := by
  refine ⟨fun _ h => h, fun f hf => ?_, trivial⟩
  cases hf with
  | head => exact ⟨.refl _, fun b hb _ => ⟨hb, rfl⟩⟩
  | tail _ h => cases h
theorem Rd.start {R : Reg} {s : Nat} {v : Value} {cs : List Value} (h : Rd R w s v cs) : Rd (fun b => b < w.heap.size ∧ R b) w s v cs := by
  obtain ⟨p, len, cap, h1, h2, h3, h4, h5⟩ := h
  refine ⟨p, len, cap, h1, h2, h3, h4, fun hc => ?_⟩
  obtain ⟨b, off, arr, T, fr, e1, e2, e3, e4⟩ := h5 hc
  exact ⟨b, off, arr, T, fr, e1, ⟨lt_of_heap e3, e2⟩, e3, e4⟩
/-- The region of what is new since a world. -/
def New (w0 : World) : Reg := fun b => w0.heap.size ≤ b
theorem St.keepOld (hs : St A w F L) {w0 : World} {i : Nat} (hF : F[i]? = some (.old (fun _ => False) w0)) : Keep w0 w := by
  obtain ⟨h1, h2⟩ := hs.fact i hF
  exact ⟨fun b hb => (h2 b hb (fun h => h)).2, h1⟩
/-- What a call hands back: facts in new blocks, and slices of its own. -/
theorem St.fr (hs : St A w F L) {w0 : World} {i : Nat} (hF : F[i]? = some (.old (fun _ => False) w0)) {F1 : List Fact} {L1 : List Mob}
    (hF1 : ∀ A1 : Reg, (∀ b, A1 b ↔ A b ∧ w0.heap.size ≤ b) → ∀ f ∈ F1, f.holds A1 w) (hL : L1.length ≤ L.length) (hL1 : L.take L1.length = L1) : Fr w0 w F1 L1 := by
  obtain ⟨h1, h2⟩ := hs.fact i hF
  refine ⟨hs.keepOld hF, fun b => A b ∧ w0.heap.size ≤ b, fun b hb => ⟨hb.2, hs.lt b hb.1⟩, hF1 _ (fun _ => Iff.rfl), ?_⟩
  have key : ∀ (L1 L : List Mob) (A : Reg), L.take L1.length = L1 → Mobs w A L → Mobs w A L1 := by
    intro L1
    induction L1 with
    | nil => intro _ _ _ _; trivial
    | cons m L1 ih =>
      intro L A he hm
      cases L with
      | nil => simp at he
      | cons m' L =>
        simp only [List.length_cons, List.take_succ_cons, List.cons.injEq] at he
        obtain ⟨rfl, he⟩ := he
        obtain ⟨o, h1, h2, h3⟩ := hm
        exact ⟨o, h1, h2, ih L _ he h3⟩
  refine (key L1 L A hL1 hs.mobs).anti ?_
  rintro b (h | h)
  · exact h.1
  · exact (h2 b h (fun h => h)).1
theorem fr_nil (hs : St A w F L) {w0 : World} {i : Nat} (hF : F[i]? = some (.old (fun _ => False) w0)) : Fr w0 w [] [] := Fr.nil (hs.keepOld hF)
theorem fr_own (hs : St A w F L) {w0 : World} {i : Nat} (hF : F[i]? = some (.old (fun _ => False) w0)) {j : Nat} {m : Mob} (hL : L[j]? = some m) : Fr w0 w [] [m] :=
  (hs.front hL).fr hF (fun _ _ f hf => by cases hf) (by simp) (by simp)
theorem Rd.inNew {w0 : World} {s : Nat} {v : Value} {cs : List Value} {A1 : Reg} (h : Rd (fun b => A b ∧ New w0 b) w s v cs) (h1 : ∀ b, A1 b ↔ A b ∧ w0.heap.size ≤ b) : Rd (fun b => A1 b ∧ True) w s v cs :=
  h.step (fun b hb => ⟨(h1 b).2 hb, trivial⟩) (fun _ _ => rfl)
end Go.Lv

set_option linter.unusedVariables false
set_option linter.unusedSimpArgs false
namespace Go.Lv
variable {P : Program} {n : Nat} {ops : Array Oper} {rest : List Oper} {K : Env → World → Prop} {σ : Env} {w : World}
variable {d : Nat} {ty : TypeId} {pos : String} {after : Array Edge} {A : Reg} {F : List Fact} {L : List Mob}

/-- The bytes of a list, as cells. -/
@[reducible] def encL {T : Type} {k : IntKind} [GI T k] (l : List T) : List Value := l.map iv
theorem iv_u8 (b : UInt8) : iv b = .int .u8 (b.toNat : Int) := rfl
theorem X.b2s {x : Operand} {s t e : TypeId} {R : Reg} {v : Value} {l : List UInt8} (hs' : P.underlying s = some (.slice e)) (he : P.underlying e = some (.int .u8)) (ht : P.underlying t = some .string)
    (hr : Rd R w 1 v (encL l)) (hx : ev σ x = v) : XO P σ w (.convert s t x) (sv l) := fun _ _ _ _ _ => by
  obtain ⟨p, len, cap, rfl, h2, h3, h4, h5⟩ := hr
  have hlen : l.length = len := by simpa [encL] using h2
  subst hlen
  have hrun : (convert s t (.slice p l.length cap)).run P w = .ok (sv l) w := by
    cases p with
    | none =>
      have := h4 rfl
      have : l = [] := List.eq_nil_of_length_eq_zero (by omega)
      subst this
      rw [run_convert_bytes_string w s t e none _ _ hs' he ht]; rfl
    | some a =>
      refine run_convert_bytes_back w s t e a cap l hs' he ht (fun j hj => ?_)
      obtain ⟨b, off, arr, T, fr, e1, _, e2, _, e3⟩ := h5 (by omega)
      cases e1
      rw [add_off, cell_of e2, e3 j (by omega)]
      simp [encL, hj, iv_u8]
  simp only [execOp, hx, Sem.run_bind, hrun, Result.andThen_ok, Sem.run_pure]
/-- A string's bytes, in new memory. -/
theorem WL.s2b {x : Operand} {s t e : TypeId} {l : List UInt8} (hs' : P.underlying s = some .string) (ht : P.underlying t = some (.slice e)) (he : P.underlying e = some (.int .u8)) (hs : St A w F L)
    (hd : Nat.blt d n = true) (hx : ev σ x = sv l) (h : ∀ p m c w', St A w' F (.own 1 e (.slice p m c) (encL l) :: L) → WL P n ops rest K (upd σ d (.slice p m c)) w') :
    WL P n ops (⟨some d, .convert s t x, ty, pos, after, none⟩ :: rest) K σ w := by
  have hr := run_bytes_of_string (P := P) w s t e ⟨l.toArray⟩ hs' ht he
  have hsz : (⟨l.toArray⟩ : ByteArray).size = l.length := by simp [ByteArray.size]
  have hge : l.length ≤ grownCap w (⟨l.toArray⟩ : ByteArray).size 0 e := by rw [hsz]; simp [grownCap, Question.cut]
  generalize hcap : grownCap w (⟨l.toArray⟩ : ByteArray).size 0 e = cap at hr hge
  have hw : (w.drew.alloc (.cells (bytesRow ⟨l.toArray⟩ cap) e ((bytesRow ⟨l.toArray⟩ cap).size, (bytesRow ⟨l.toArray⟩ cap).size + 1))) = newBlk w.drew (.cells (bytesRow ⟨l.toArray⟩ cap) e ((bytesRow ⟨l.toArray⟩ cap).size, (bytesRow ⟨l.toArray⟩ cap).size + 1)) := rfl
  rw [hw] at hr
  refine .val rfl rfl hd (v := .slice (some ⟨w.heap.size, 0, none⟩) l.length cap) (w' := newBlk w.drew (.cells (bytesRow ⟨l.toArray⟩ cap) e ((bytesRow ⟨l.toArray⟩ cap).size, (bytesRow ⟨l.toArray⟩ cap).size + 1))) ?_ (h _ _ _ _ (hs.drewn.newMob _ _ ⟨_, l.length, cap, rfl, by simp [encL], hge, by simp, by simp, fun b hb => ?_⟩))
  · rw [hsz] at hr
    simp only [execOp, hx, Sem.run_bind, hr, Result.andThen_ok, Sem.run_pure]
  · cases hb
    refine ⟨_, _, rfl, newBlk_new _ _, ?_, .inr (Nat.le_refl _), fun i hi => ?_⟩
    · simp [bytesRow]; omega
    · have hi' : i < l.length := by omega
      simp only [bytesRow]
      rw [Array.getElem?_append_left (by simp; omega)]
      simp [encL, hi', iv_u8]

/-! ### a slice of one's own, element by element -/
/-- A slice of one's own whose block has a name. -/
def Mob.at_ (b s : Nat) (E : TypeId) (m c : Nat) (cs : List Value) : Mob where
  holds o w := o = some b ∧ (Mob.own s E (.slice (some ⟨b, 0, none⟩) m c) cs).holds o w
  step h hs := ⟨h.1, (Mob.own s E _ cs).step h.2 hs⟩
theorem St.reveal (hs : St A w F L) {i s : Nat} {E : TypeId} {v : Value} {cs : List Value} (hL : L[i]? = some (.own s E v cs)) (hne : 0 < cs.length) :
    ∃ b m c, v = .slice (some ⟨b, 0, none⟩) m c ∧ St A w F (L.set i (.at_ b s E m c cs)) := by
  obtain ⟨o, ⟨p, len, cap, rfl, h2, h3, h4, h5, h6⟩, _, _⟩ := (hs.front hL).mobs
  have hlen : 0 < len := by
    rcases Nat.eq_zero_or_pos len with h | h
    · rw [h, Nat.zero_mul] at h2; omega
    · exact h
  cases o with
  | none => have := h5 rfl; omega
  | some b =>
    obtain ⟨arr, fr, rfl, _⟩ := h6 b rfl
    refine ⟨b, len, cap, rfl, hs.renameMob hL (fun q hq => ⟨q, ?_, .inl rfl⟩)⟩
    refine ⟨?_, hq⟩
    obtain ⟨_, _, _, e, _, _, _, k5, k6⟩ := hq
    cases e
    cases q with
    | none => have := k5 rfl; omega
    | some b' => obtain ⟨_, _, e, _⟩ := k6 b' rfl; cases e; rfl
theorem St.rev (hs : St A w F L) {i s : Nat} {E : TypeId} {p : Option Addr} {l c : Nat} {cs : List Value} {L' : Nat → List Mob} (hL : L[i]? = some (.own s E (.slice p l c) cs)) (hne : 0 < cs.length) (hL' : ∀ b, L.set i (.at_ b s E l c cs) = L' b) :
    ∃ b, p = some ⟨b, 0, none⟩ ∧ St A w F (L' b) := by
  obtain ⟨b, m, cc, e, h⟩ := hs.reveal hL hne
  cases e
  exact ⟨b, rfl, hL' b ▸ h⟩
theorem St.hide (hs : St A w F L) {i b s m c : Nat} {E : TypeId} {cs : List Value} (hL : L[i]? = some (.at_ b s E m c cs)) : St A w F (L.set i (.own s E (.slice (some ⟨b, 0, none⟩) m c) cs)) :=
  hs.renameMob hL (fun q hq => ⟨q, hq.2, .inl rfl⟩)
theorem X.index_at {x ix : Operand} {t e E : TypeId} {s j b m c k i : Nat} {cs : List Value} (ht : P.underlying t = some (.slice e)) (hsz : SizeIs P e s) (hs : St A w F L) (hL : L[j]? = some (.at_ b s E m c cs))
    (hl : cs.length = k * s) (hp : 0 < s) (hi : i < k) (hx : ev σ x = .slice (some ⟨b, 0, none⟩) m c) (hix : ev σ ix = iv (i : Int)) : XO P σ w (.indexAddr t x ix) (.pointer (some ⟨b, i * s, none⟩)) := fun _ _ _ _ _ => by
  obtain ⟨o, h1, h2⟩ := Mobs.mem (A := A) hs.mobs hL
  obtain ⟨_, _, _, e, h3, _⟩ := h2
  cases e
  have hm : m = k := Nat.eq_of_mul_eq_mul_right hp (h3.symm.trans hl)
  subst hm
  have h6 : (0 : Int) ≤ i ∧ (i : Int) < m := by omega
  simp only [execOp, hx, hix, iv, GI.toZ, Instr.indexAt, Sem.run_bind, asIntOf, Sem.run_pure, Result.andThen_ok, run_underlying ht, h6, and_self, if_true, run_sizeOf_of hsz, add_off, Int.toNat_natCast, Nat.zero_add]
theorem X.load_at {x : Operand} {t E : TypeId} {s j b m c k : Nat} {v : Value} {cs : List Value} (hs : St A w F L) (hL : L[j]? = some (.at_ b s E m c cs)) (ht : Plain P t) (hx : ev σ x = .pointer (some ⟨b, k, none⟩)) (hv : cs[k]? = some v) :
    XO P σ w (.load t x) v := fun _ _ _ _ _ => by
  obtain ⟨u, hu, hp⟩ := ht
  obtain ⟨o, rfl, h2⟩ := Mobs.mem (A := A) hs.mobs hL
  obtain ⟨_, len, cap, e, h3, _, _, _, h6⟩ := h2
  obtain ⟨arr, fr, _, hb, _, _, hc⟩ := h6 b rfl
  have hk : k < cs.length := (List.getElem?_eq_some_iff.1 hv).1
  have hc' : w.cell? ⟨b, k, none⟩ = some v := by rw [cell_of hb, hc k (by omega), hv]
  simp only [execOp, hx, Instr.loadAt, Instr.sureAddr, Sem.run_bind, Sem.run_pure, Result.andThen_ok, loadVar, run_isAgg_of hu hp, Bool.false_eq_true, if_false, run_load_cell hc']
theorem WL.store_at {a x : Operand} {t E : TypeId} {s j b m c k q : Nat} {v : Value} {cs cs' vs : List Value} {L' : List Mob} (hs : St A w F L) (hL : L[j]? = some (.at_ b s E m c cs)) (hsz : SizeIs P t q)
    (ha : ev σ a = .pointer (some ⟨b, k, none⟩)) (hx : ev σ x = v) (hv : v.cells = vs.toArray) (hl : vs.length = q) (h1 : vs.all (·.oneCell') = true) (hle : k + q ≤ cs.length)
    (hc : splice cs k vs = cs') (hL' : L.set j (.at_ b s E m c cs') = L') (h : ∀ w', St A w' F L' → WL P n ops rest K σ w') :
    WL P n ops (⟨none, .store t a x, ty, pos, after, none⟩ :: rest) K σ w := by
  obtain ⟨o, ho, _, _⟩ := (hs.front hL).mobs
  obtain ⟨rfl, ho⟩ := ho
  have ho' := ho
  obtain ⟨_, len, cap, e, h3, h4, h5, h5', h6⟩ := ho
  cases e
  obtain ⟨arr, fr, e, hb, hsz', hfz, hcells⟩ := h6 b rfl
  have hcl : cs.length ≤ arr.size := by rw [h3, hsz']; exact Nat.mul_le_mul_right _ h4
  have hr := run_storeCells_blk (P := P) b E fr vs k 0 arr.toList w (by simpa using hb) (by simp; omega) (by simp; rcases hfz with h | h; exact .inr (.inr (Nat.le_of_eq h.symm)); exact .inr (.inl h)) (fun v hv => by simpa using List.all_eq_true.1 h1 v hv)
  simp only [Nat.add_zero] at hr
  have hbl := lt_of_heap hb
  have hcs' : cs'.length = cs.length := by rw [← hc]; exact splice_length (by omega)
  have hget : ∀ i, i < m * s → (splice arr.toList k vs)[i]? = cs'[i]? := fun i hi => by
    rw [← hc]
    have hmin1 : min k arr.toList.length = k := by simp; omega
    have hmin2 : min k cs.length = k := by omega
    simp only [splice, List.getElem?_append, List.length_take, hmin1, hmin2, List.getElem?_take, List.getElem?_drop]
    by_cases h1 : i < k
    · rw [if_pos h1, if_pos h1, if_pos h1, if_pos h1]; simpa using hcells i hi
    · rw [if_neg h1, if_neg h1]
      by_cases h2 : i - k < vs.length
      · rw [if_pos h2, if_pos h2]
      · rw [if_neg h2, if_neg h2]
        have e1 : k + vs.length + (i - k - vs.length) = i := by omega
        rw [e1]; simpa using hcells i hi
  refine .unit rfl rfl (w' := setBlk w b (.cells (splice arr.toList k vs).toArray E fr)) ?_ (h _ (hL' ▸ hs.setMobAt hL (b := b) ⟨rfl, ho'⟩ ⟨rfl, _, m, c, rfl, by rw [hcs', h3], h4, h5, h5', fun b' hb' => ?_⟩ ?_))
  · simp [execOp, ha, hx, Instr.storeAt, Instr.sureAddr, storeVar, run_sizeOf_of hsz, hv, hl, hr]
  · cases hb'
    refine ⟨(splice arr.toList k vs).toArray, fr, rfl, by simp [setBlk, hbl], ?_, ?_, fun i hi => ?_⟩
    · simp only [List.size_toArray]; rw [splice_length (by simp; omega)]; simpa using hsz'
    · simp only [List.size_toArray]; rw [splice_length (by simp; omega)]; simpa using hfz
    · simpa using hget i hi
  · rintro ⟨q, hq, q1, q2⟩
    exact ⟨q, hq, q1, q2, hq.1⟩
theorem splice_one {cells : List Value} {k : Nat} {v : Value} (h : k < cells.length) : splice cells k [v] = cells.set k v := by
  have := splice_cons (cells := cells) (off := k) (v := v) (vs := []) (by simp; omega)
  rw [splice_nil] at this
  exact this.symm
theorem flat_rep (zs : List Value) (s : Nat) (hz : zs.length = s) (hp : 0 < s) : ∀ (m i : Nat), i < m * s → ((List.replicate m zs).flatten)[i]? = zs[i % s]?
  | 0, i, h => by simp at h
  | m + 1, i, h => by
    rw [List.replicate_succ, List.flatten_cons, List.getElem?_append]
    by_cases hi : i < zs.length
    · rw [if_pos hi, Nat.mod_eq_of_lt (by omega)]
    · rw [if_neg hi, hz, flat_rep zs s hz hp m (i - s) (by rw [Nat.succ_mul] at h; omega)]
      congr 1
      conv => rhs; rw [show i = (i - s) + s by omega, Nat.add_mod_right]
/-- A slice with zeros in it. -/
theorem WL.makeSlice {t e : TypeId} {lo co : Operand} {s m : Nat} {z : Value} {zs : List Value} (ht : P.underlying t = some (.slice e)) (he : ElemOk P e s) (hz : ∃ i, P.info? e = some i ∧ i.zero = some z) (hzs : z.cells = zs.toArray) (hs : St A w F L)
    (hd : Nat.blt d n = true) (hl : ev σ lo = iv (m : Int)) (hc : ev σ co = iv (m : Int)) (hlim : m ≤ LIM) (h : ∀ p l c w', St A w' F (.own s e (.slice p l c) ((List.replicate m zs).flatten) :: L) → WL P n ops rest K (upd σ d (.slice p l c)) w') :
    WL P n ops (⟨some d, .makeSlice t lo co, ty, pos, after, none⟩ :: rest) K σ w := by
  obtain ⟨ti, hi, hz⟩ := hz
  obtain ⟨ti', z', hi', hsz, hz', hzz, hby⟩ := he.ok
  rw [hi] at hi'; cases hi'
  rw [hz] at hz'; cases hz'
  have hzl : zs.length = s := by have := congrArg Array.size hzs; simp at this; omega
  have hLIM : LIM = 17179869184 := rfl
  rw [hLIM] at hlim
  have hmb : m * ti.bytes ≤ 70368744177664 := by have := Nat.mul_le_mul hlim hby; omega
  have hw : IntKind.i64.wrap (m : Int) = m := by
    have := wrap64_id (n := (m : Int)) (by omega) (by omega); exact this
  have hcells : ∀ z0 : Array Value, (z0 = zs.toArray ∨ m * s = 0) → ((Array.range (m * s)).map fun x => z0[x % z0.size]!) = ((List.replicate m zs).flatten).toArray := by
    intro z0 h0
    apply Array.ext'
    apply List.ext_getElem?
    intro i
    simp only [Array.toList_map, Array.toList_range, List.getElem?_map]
    by_cases hi : i < m * s
    · rcases h0 with rfl | h0
      · rw [flat_rep zs s hzl he.pos m i hi, List.getElem?_range hi]
        have : i % s < zs.length := by rw [hzl]; exact Nat.mod_lt _ he.pos
        rw [List.getElem?_eq_getElem this]
        simp [hzl, List.getElem?_eq_getElem this]
      · omega
    · have e1 : ((List.replicate m zs).flatten).length = m * s := by simp [hzl]
      rw [List.getElem?_eq_none (by simpa using hi), List.getElem?_eq_none (by rw [e1]; omega)]
      rfl
  have e1 : ((List.replicate m zs).flatten).length = m * s := by simp [hzl]
  have hzv : (zeroValue e).run P w = .ok z w := by simp [zeroValue, typeInfo, hi, hz]
  have hsz' := run_sizeOf_of (P := P) he.size w
  have hti : (typeInfo e).run P w = .ok ti w := by simp [typeInfo, hi]
  have hask : ∀ b : Nat, (askRoom b).run P w = .ok () w := fun b => by unfold askRoom; split <;> rfl
  have hrun : (newRow e ((List.replicate m zs).flatten).toArray).run P w = .ok ⟨w.heap.size, 0, none⟩ (newBlk w (.cells ((List.replicate m zs).flatten).toArray e)) := rfl
  refine .val rfl rfl hd (v := .slice (some ⟨w.heap.size, 0, none⟩) m m) (w' := newBlk w (.cells ((List.replicate m zs).flatten).toArray e)) ?_ (h _ _ _ _ (hs.newMob _ _ ⟨_, m, m, rfl, e1, Nat.le_refl _, by simp, by simp, fun b hb => ?_⟩))
  · have c1 : (decide ((m : Int) < 0) || decide ((ti.bytes : Int) * m > 2 ^ 48)) = false := by
      have h3 : (ti.bytes : Int) * m ≤ 70368744177664 := by
        have h := Int.ofNat_le.2 hmb
        rw [Int.natCast_mul, Int.mul_comm] at h
        exact h
      have h4 : ¬ ((m : Int) < 0) := by omega
      have h5 : ¬ ((ti.bytes : Int) * m > 2 ^ 48) := by
        have : (2 : Int) ^ 48 = 281474976710656 := rfl
        rw [this]; omega
      rw [decide_eq_false h4, decide_eq_false h5]; rfl
    simp only [execOp, Instr.makeSlice, hl, hc, iv, GI.toZ, Sem.run_bind, run_underlying ht, Result.andThen_ok, asInt, asIntOf, Sem.run_pure, hti, hw, c1]
    simp only [Bool.false_or, Bool.not_false, Bool.not_true, Bool.false_eq_true, if_false]
    rw [if_neg (by simp)]
    simp only [Sem.run_bind, hask, Result.andThen_ok, hsz', Int.toNat_natCast]
    split
    · rename_i h0
      simp only [Sem.run_bind, Sem.run_pure, Result.andThen_ok, hcells #[] (.inr h0), hrun]
    · simp only [Sem.run_bind, Sem.run_pure, hzv, Result.andThen_ok, hzs, hcells zs.toArray (.inl rfl), hrun]
  · cases hb
    exact ⟨_, (0, 0), rfl, newBlk_new _ _, by simpa using e1, .inl rfl, fun i hi => by simp⟩
end Go.Lv

set_option linter.unusedVariables false
set_option linter.unusedSimpArgs false
namespace Go.Lv
variable {P : Program} {n : Nat} {ops : Array Oper} {σ : Env} {w : World}

section
variable {Q : Exit → Act → World → Prop} {md : Region.Mode} {S : World → Prop} {T : Nat}
/-- Whatever order is picked; S holds behind every operation ahead of number T. -/
def wpAnyT (P : Program) (md : Region.Mode) (ops : Array Oper) (Q : Exit → Act → World → Prop) (S : World → Prop) (T : Nat) : Nat → Array Bool → Act → World → Prop
  | 0, listed, a, w => Region.ready md ops listed = [] ∧ Q .normal a w
  | fuel + 1, listed, a, w =>
    (Region.ready md ops listed = [] → Q .normal a w) ∧
    ∀ i ∈ Region.ready md ops listed, wpOp P ops Q i (fun a' w' => (i < T → S w') ∧ wpAnyT P md ops Q S T fuel (listed.setIfInBounds i true) a' w') a w
theorem wpAny_of_T : ∀ (fuel : Nat) (listed : Array Bool) (a : Act) (w : World), wpAnyT P md ops Q S T fuel listed a w → wpAny P md ops Q fuel listed a w
  | 0, _, _, _, h => h
  | fuel + 1, _, _, _, h => ⟨h.1, fun i hi => wpOp_mono (fun a' w' h' => wpAny_of_T fuel _ a' w' h'.2) (h.2 i hi)⟩
theorem wpAnyT_of_any : ∀ (fuel : Nat) (listed : Array Bool) (a : Act) (w : World), (∀ i ∈ Region.ready md ops listed, T ≤ i) → (∀ i, listed.getD i true = false → T ≤ i) → wpAny P md ops Q fuel listed a w → wpAnyT P md ops Q S T fuel listed a w
  | 0, _, _, _, _, _, h => h
  | fuel + 1, listed, a, w, h1, h2, h => ⟨h.1, fun i hi => wpOp_mono (fun a' w' h' => ⟨fun hlt => absurd (h1 i hi) (by omega), wpAnyT_of_any fuel _ a' w' (fun j hj => h2 j (by
      have := (mem_ready.1 hj).1
      by_cases hji : j = i
      · subst hji; exact (mem_ready.1 hi).1
      · rw [getD_set_ne true (Ne.symm hji)] at this; exact this)) (fun j hj => h2 j (by
      by_cases hji : j = i
      · subst hji; exact (mem_ready.1 hi).1
      · rw [getD_set_ne true (Ne.symm hji)] at hj; exact hj)) h'⟩) (h.2 i hi)⟩
/-- Whether number j waits for number i, straight or by way of others. -/
def blkB (md : Region.Mode) (ops : Array Oper) (listed : Array Bool) (i j : Nat) (acc : List Nat) : Bool :=
  !(listed.getD j true) && (!(Nat.beq j i) && (match ops[j]? with
    | some oj => oj.after.any fun e => Region.binds md e && (Nat.beq e.on i || acc.any (Nat.beq e.on))
    | none => false))
/-- Those that are not listed and that wait for number i, straight or by way of others. -/
def blkK (md : Region.Mode) (ops : Array Oper) (listed : Array Bool) (i : Nat) (k : List Nat → Bool) : List Nat → List Nat → Bool
  | [], acc => k acc
  | j :: js, acc => bif blkB md ops listed i j acc then blkK md ops listed i k js (j :: acc) else blkK md ops listed i k js acc
def Blk (md : Region.Mode) (ops : Array Oper) (listed : Array Bool) (i : Nat) (B : List Nat) : Prop :=
  ∀ j ∈ B, listed.getD j true = false ∧ ∃ oj, ops[j]? = some oj ∧ ∃ e ∈ oj.after, Region.binds md e = true ∧ (e.on = i ∨ e.on ∈ B)
theorem blkK_ok {listed : Array Bool} {i : Nat} {k : List Nat → Bool} : ∀ (js acc : List Nat), Blk md ops listed i acc → blkK md ops listed i k js acc = true → ∃ B, Blk md ops listed i B ∧ k B = true
  | [], acc, h, hk => ⟨acc, h, hk⟩
  | j :: js, acc, h, hk => by
    unfold blkK at hk
    cases hc : blkB md ops listed i j acc with
    | false => rw [hc] at hk; exact blkK_ok js acc h hk
    | true =>
      rw [hc] at hk
      refine blkK_ok js _ ?_ hk
      unfold blkB at hc
      simp only [Bool.and_eq_true, Bool.not_eq_true'] at hc
      obtain ⟨h1, h2, h3⟩ := hc
      intro m hm
      have hmon : ∀ {e : Edge}, (e.on = i ∨ e.on ∈ acc) → (e.on = i ∨ e.on ∈ j :: acc) := fun h => h.imp id (fun h => List.mem_cons_of_mem _ h)
      rcases List.mem_cons.1 hm with rfl | hm
      · refine ⟨h1, ?_⟩
        cases ho : ops[m]? with
        | none => rw [ho] at h3; cases h3
        | some oj =>
          rw [ho] at h3
          obtain ⟨e, he, hb⟩ := Array.any_eq_true'.1 h3
          simp only [Bool.and_eq_true, Bool.or_eq_true, List.any_eq_true] at hb
          refine ⟨oj, rfl, e, he, hb.1, hmon (hb.2.imp Nat.eq_of_beq_eq_true ?_)⟩
          rintro ⟨y, hy, he⟩
          rw [Nat.eq_of_beq_eq_true he]; exact hy
      · obtain ⟨h4, oj, h5, e, he, hb, hx⟩ := h m hm
        exact ⟨h4, oj, h5, e, he, hb, hmon hx⟩
theorem Blk.not_ready {listed : Array Bool} {i j : Nat} {B : List Nat} (h : Blk md ops listed i B) (hi : listed.getD i true = false) (hj : j ∈ Region.ready md ops listed) : j ∉ B := fun hm => by
  obtain ⟨hjun, oj, hoj, hall⟩ := mem_ready.1 hj
  obtain ⟨_, oj', hoj', e, he, hb, hx⟩ := h j hm
  rw [hoj] at hoj'
  cases hoj'
  have h0 : listed.getD e.on true = false := by
    rcases hx with hx | hx
    · rw [hx]; exact hi
    · exact (h _ hx).1
  have h1 := hall e he hb
  rcases Nat.lt_or_ge e.on listed.size with h' | h'
  · simp [h'] at h0 h1; rw [h0] at h1; cases h1
  · simp [Array.getElem?_eq_none h'] at h1
theorem wpAnyT_first {i : Nat} {oi : Oper} {v : Value} {B : List Nat} (hi : ops[i]? = some oi) (hsel : ∀ (j : Nat) (o : Oper) cs b, ops[j]? = some o → o.op ≠ .select cs b)
    (hQ : ∀ c a w, Q (.panic c) (a.put oi.dst v) w → Q (.panic c) a w) :
    ∀ (fuel : Nat) (listed : Array Bool) (a : Act) (w : World), Blk md ops listed i B →
      (∀ j, j < ops.size → T ≤ j → j ≠ i → listed.getD j true = false → j ∈ B) →
      (∀ j oj, ops[j]? = some oj → j ≠ i → listed.getD j true = false → j ∉ B → oi.apart ops oj = true) →
      i ∈ Region.ready md ops listed → YieldsIf P ops S oi v a → S w →
      wpAnyT P md ops Q S T fuel (listed.setIfInBounds i true) (a.put oi.dst v) w → wpAnyT P md ops Q S T (fuel + 1) listed a w := by
  intro fuel
  induction fuel with
  | zero =>
    intro listed a w _ _ _ hr hy hS H
    refine ⟨fun h => (by rw [h] at hr; cases hr), fun j hj => ?_⟩
    by_cases hji : j = i
    · subst hji; exact hy.wpOp hi hS ⟨fun _ => hS, H⟩
    · have := ready_mono hj hji
      rw [H.1] at this
      cases this
  | succ fuel ih =>
    intro listed a w hblk hT hfree hr hy hS H
    refine ⟨fun h => (by rw [h] at hr; cases hr), fun j hj => ?_⟩
    by_cases hji : j = i
    · subst hji; exact hy.wpOp hi hS ⟨fun _ => hS, H⟩
    · have h1 := H.2 j (ready_mono hj hji)
      obtain ⟨hjun, oj, hoj, hall⟩ := mem_ready.1 hj
      have hjB := hblk.not_ready (mem_ready.1 hr).1 hj
      have hjT : j < T := by
        rcases Nat.lt_or_ge j T with h | h
        · exact h
        · exact absurd (hT j (Array.getElem?_eq_some_iff.1 hoj).1 h hji hjun) hjB
      have h2 := wpOp_putIf hoj (hfree j oj hoj hji hjun hjB) (fun cs b => hsel i oi cs b hi) (fun cs b => hsel j oj cs b hoj) hQ hy h1
      have hmono : ∀ k, (listed.setIfInBounds j true).getD k true = false → listed.getD k true = false := fun k hun => by
        by_cases hjk : j = k
        · subst hjk; exact hjun
        · rw [getD_set_ne true hjk] at hun; exact hun
      have hblk' : Blk md ops (listed.setIfInBounds j true) i B := fun k hk => by
        refine ⟨?_, (hblk k hk).2⟩
        have hjk : j ≠ k := fun h => hjB (by rw [h]; exact hk)
        rw [getD_set_ne true hjk]
        exact (hblk k hk).1
      refine wpOp_mono (fun a' w' h3 => ⟨h3.2.1, ih (listed.setIfInBounds j true) a' w' hblk' (fun k hk h hki hun => hT k hk h hki (hmono k hun)) (fun k ok hk hki hun hno => hfree k ok hk hki (hmono k hun) hno) (ready_mono hr (Ne.symm hji)) h3.1 (h3.2.1 hjT) ?_⟩) h2
      rw [Array.setIfInBounds_comm _ _ hji]
      exact h3.2.2
/-- Every other operation that is still to come is apart from number i, or it comes behind it, and none from number T on comes ahead of it. -/
def clearB (ops : Array Oper) (T : Nat) (listed : Array Bool) (i : Nat) (oi : Oper) (B : List Nat) : Bool :=
  (List.range ops.size).all fun j => listed.getD j true || (Nat.beq j i || (B.any (Nat.beq j) || (Nat.blt j T && match ops[j]? with
    | some oj => oi.apart ops oj
    | none => true)))
theorem clearB_spec {listed : Array Bool} {i : Nat} {oi : Oper} {B : List Nat} (h : clearB ops T listed i oi B = true) :
    (∀ j, j < ops.size → T ≤ j → j ≠ i → listed.getD j true = false → j ∈ B) ∧
    (∀ j oj, ops[j]? = some oj → j ≠ i → listed.getD j true = false → j ∉ B → oi.apart ops oj = true) := by
  unfold clearB at h
  simp only [List.all_eq_true, List.mem_range, Bool.or_eq_true, Bool.and_eq_true, List.any_eq_true] at h
  refine ⟨fun j hj hT hji hun => ?_, fun j oj hoj hji hun hno => ?_⟩
  · rcases h j hj with h1 | h1 | ⟨y, hy, h1⟩ | h1
    · rw [hun] at h1; cases h1
    · exact absurd (Nat.eq_of_beq_eq_true h1) hji
    · rw [Nat.eq_of_beq_eq_true h1]; exact hy
    · have h2 := h1.1
      rw [Nat.blt_eq] at h2
      omega
  · rcases h j (Array.getElem?_eq_some_iff.1 hoj).1 with h1 | h1 | ⟨y, hy, h1⟩ | h1
    · rw [hun] at h1; cases h1
    · exact absurd (Nat.eq_of_beq_eq_true h1) hji
    · exact absurd (by rw [Nat.eq_of_beq_eq_true h1]; exact hy) hno
    · have h2 := h1.2
      rw [hoj] at h2
      exact h2
end

/-- A region that draws its order, from an environment. -/
def WD (P : Program) (n : Nat) (ops : Array Oper) (S : World → Prop) (T fuel : Nat) (listed : Array Bool) (K : Env → World → Prop) (σ : Env) (w : World) : Prop :=
  ∀ a, Fits n a σ → wpAnyT P .any ops (fun e a' w' => e = Exit.normal ∧ ∃ σ', Fits n a' σ' ∧ K σ' w') S T fuel listed a w

variable {Q : Exit → Env → World → Prop} {K : Env → World → Prop} {S : World → Prop} {T fuel : Nat} {listed : Array Bool}
theorem wp_region_cut {id : Nat} {a : Act} {Z : Act → World → Prop} {R : Exit → Act → World → Prop} (h : (Code.region id ops true).wp P (fun e a w => e = Exit.normal ∧ Z a w) a w) (h2 : ∀ a w, Z a w → R .normal a w) :
    (Code.region id ops true).wp P R a w := wp_mono h fun e a w hh => by obtain ⟨rfl, hz⟩ := hh; exact h2 a w hz
theorem W.regionD {id : Nat} (hm : P.follows .mixedOrders = true) (S : World → Prop) (T : Nat)
    (h : ∀ w', w'.heap = w.heap → Gr w w' → WD P n ops S T ops.size (Array.replicate ops.size false) (fun σ' w' => Q .normal σ' w') σ w') : W P n (.region id ops true) Q σ w := by
  intro a ha
  refine wp_region_cut (Z := fun a' w' => ∃ σ', Fits n a' σ' ∧ Q .normal σ' w') ?_ (fun a w h => h)
  exact wp_region_any hm (wpAny_of_T (S := S) (T := T) _ _ _ _ (h { w with drawn := w.drawn + 1 } rfl ⟨Nat.le_refl _, rfl, rfl, rfl⟩ a ha))
/-- Take number i first. -/
def takeB (ops : Array Oper) (T : Nat) (listed : Array Bool) (i : Nat) : Bool :=
  Region.noSelect ops && ((Region.ready .any ops listed).contains i && match ops[i]? with
    | some oi => blkK .any ops listed i (clearB ops T listed i oi) (List.range ops.size) []
    | none => false)
theorem takeB_spec {i : Nat} {oi : Oper} (hi : ops[i]? = some oi) (hB : takeB ops T listed i = true) : ∃ B, Blk .any ops listed i B ∧ clearB ops T listed i oi B = true := by
  simp only [takeB, Bool.and_eq_true, hi] at hB
  exact blkK_ok _ _ (fun j hj => by cases hj) hB.2.2
theorem WD.take {o : Oper} {d : Nat} {v : Value} (i : Nat) (hi : ops[i]? = some o) (hB : takeB ops T listed i = true) (hd : o.dst = some d) (hdn : Nat.blt d n = true) (hg : o.guard = none)
    (hS : S w) (hx : ∀ w', S w' → (execOp (ev σ) o).run P w' = .ok (.value v) w') (h : WD P n ops S T fuel (listed.setIfInBounds i true) K (upd σ d v) w) : WD P n ops S T (fuel + 1) listed K σ w := by
  intro a ha
  obtain ⟨B, hblk, hcl⟩ := takeB_spec hi hB
  simp only [takeB, Bool.and_eq_true] at hB
  refine wpAnyT_first (v := v) hi (Region.noSelect_spec hB.1) (fun c a w h => absurd h.1 (by simp)) fuel listed a w hblk (clearB_spec hcl).1 (clearB_spec hcl).2 (by simpa using hB.2.1) (.inl ⟨by simp [Region.wanted, hg], fun w' hw' => by rw [ha.eval]; exact hx w' hw'⟩) hS ?_
  rw [hd]; exact h _ (ha.put hdn v)
theorem WD.x {op : Op} {d : Nat} {ty : TypeId} {pos : String} {after : Array Edge} {v : Value} (i : Nat) (hi : ops[i]? = some ⟨some d, op, ty, pos, after, none⟩) (hB : takeB ops T listed i = true) (hdn : Nat.blt d n = true)
    (hS : S w) (hx : ∀ w', S w' → XO P σ w' op v) (h : WD P n ops S T fuel (listed.setIfInBounds i true) K (upd σ d v) w) : WD P n ops S T (fuel + 1) listed K σ w :=
  WD.take i hi hB rfl hdn rfl hS (fun w' hw' => hx w' hw' _ _ _ _ _) h
theorem WD.gx {op : Op} {d j t : Nat} {ty : TypeId} {pos : String} {after : Array Edge} {v : Value} {want b : Bool} (i : Nat) (hi : ops[i]? = some ⟨some d, op, ty, pos, after, some (j, want)⟩) (hB : takeB ops T listed i = true) (hdn : Nat.blt d n = true)
    (hj : (ops[j]?).bind (·.dst) = some t) (hb : σ t = .bool b) (hS : S w) (hx : (b == want) = true → ∀ w', S w' → XO P σ w' op v)
    (h : WD P n ops S T fuel (listed.setIfInBounds i true) K (upd σ d (gv b want v)) w) : WD P n ops S T (fuel + 1) listed K σ w := by
  intro a ha
  obtain ⟨B, hblk, hcl⟩ := takeB_spec hi hB
  simp only [takeB, Bool.and_eq_true] at hB
  refine wpAnyT_first (v := gv b want v) hi (Region.noSelect_spec hB.1) (fun c a w h => absurd h.1 (by simp)) fuel listed a w hblk (clearB_spec hcl).1 (clearB_spec hcl).2 (by simpa using hB.2.1) ?_ hS (h _ (ha.put hdn _))
  by_cases hbw : (b == want) = true
  · refine .inl ⟨?_, fun w' hw' => ?_⟩
    · simp only [Region.wanted, yielded_of ha hj hb]; cases b <;> cases want <;> simp_all
    · rw [gv_on hbw, ha.eval]; exact hx hbw w' hw' _ _ _ _ _
  · refine .inr ⟨?_, ?_⟩
    · simp only [Region.wanted, yielded_of ha hj hb]; cases b <;> cases want <;> simp_all
    · unfold gv; rw [if_neg hbw]
/-- The only one that may come up, carried out where it stands. -/
theorem WD.step (i : Nat) {o : Oper} (hi : ops[i]? = some o) (hr : Region.ready .any ops listed = [i])
    (h : WL P n ops [o] (fun σ' w' => (i < T → S w') ∧ WD P n ops S T fuel (listed.setIfInBounds i true) K σ' w') σ w) : WD P n ops S T (fuel + 1) listed K σ w := by
  intro a ha
  refine ⟨fun h0 => absurd (hr ▸ h0) (by simp), fun j hj => ?_⟩
  rw [hr] at hj
  have hji : j = i := by simpa using hj
  subst hji
  have h1 := h a ha
  simp only [wpList] at h1
  unfold wpOp
  simp only [hi]
  split
  · rename_i hw
    rw [if_pos hw] at h1
    rcases h1 with h1 | ⟨_, _, _, hh, _⟩
    · exact .inl (Oper.wp_cut h1 (fun a' w' h => by obtain ⟨_, σ', hf, h2, h3⟩ := h; exact ⟨h2, h3 a' hf⟩))
    · exact absurd hh (by simp)
  · rename_i hw
    rw [if_neg hw] at h1
    obtain ⟨_, σ', hf, h2, h3⟩ := h1
    exact ⟨h2, h3 _ hf⟩
/-- What is left comes up in the order of the text. -/
def tailB (ops : Array Oper) (T fuel : Nat) (listed : Array Bool) : Bool :=
  Region.seqB .any ops fuel T listed && (List.range listed.size).all fun i => Nat.ble T i || listed.getD i false
theorem WD.tail (l : List Oper) (hl : ops.toList.drop T = l) (hf : l.length = fuel) (hB : tailB ops T fuel listed = true) (h : WL P n ops l K σ w) : WD P n ops S T fuel listed K σ w := by
  intro a ha
  simp only [tailB, Bool.and_eq_true, List.all_eq_true, List.mem_range, Bool.or_eq_true] at hB
  refine wpAnyT_of_any _ _ _ _ (fun i hi => seqB_ready hB.1 i hi) (fun i hi => ?_) ?_
  · rcases Nat.lt_or_ge i listed.size with h' | h'
    · rcases hB.2 i h' with h2 | h2
      · simpa using h2
      · rw [Array.getD_eq_getD_getElem?] at hi h2
        simp [h'] at hi h2
        rw [h2] at hi; cases hi
    · rw [Array.getD_eq_getD_getElem?, Array.getElem?_eq_none h'] at hi
      simp at hi
  · subst hf
    refine wpAny_of_seq l T listed a w (fun j => ?_) hB.1 (h a ha)
    rw [← hl, List.getElem?_drop, Array.getElem?_toList]
theorem WD.done (hr : Region.ready .any ops listed = []) (h : K σ w) : WD P n ops S T fuel listed K σ w := by
  intro a ha
  cases fuel with
  | zero => exact ⟨hr, rfl, σ, ha, h⟩
  | succ f => exact ⟨fun _ => ⟨rfl, σ, ha, h⟩, by rw [hr]; intro i hi; cases hi⟩
theorem wpAnyT_strong {md : Region.Mode} {Q : Exit → Act → World → Prop} {S S' : World → Prop} {T : Nat} (h : ∀ w, S' w → S w) : ∀ (fuel : Nat) (listed : Array Bool) (a : Act) (w : World), wpAnyT P md ops Q S' T fuel listed a w → wpAnyT P md ops Q S T fuel listed a w
  | 0, _, _, _, h1 => h1
  | fuel + 1, _, _, _, h1 => ⟨h1.1, fun i hi => wpOp_mono (fun a' w' h' => ⟨fun ht => h _ (h'.1 ht), wpAnyT_strong h fuel _ a' w' h'.2⟩) (h1.2 i hi)⟩
/-- Some that may come up: each of them. -/
theorem WD.steps {is : List Nat} (hr : Region.ready .any ops listed = is) (hne : is.isEmpty = false)
    (h : ∀ i ∈ is, ∃ o, ops[i]? = some o ∧ WL P n ops [o] (fun σ' w' => (i < T → S w') ∧ WD P n ops S T fuel (listed.setIfInBounds i true) K σ' w') σ w) : WD P n ops S T (fuel + 1) listed K σ w := by
  intro a ha
  refine ⟨fun h0 => absurd (hr ▸ h0) (by intro h; rw [h] at hne; cases hne), fun j hj => ?_⟩
  rw [hr] at hj
  obtain ⟨o, hi, h⟩ := h j hj
  have h1 := h a ha
  simp only [wpList] at h1
  unfold wpOp
  simp only [hi]
  split
  · rename_i hw
    rw [if_pos hw] at h1
    rcases h1 with h1 | ⟨_, _, _, hh, _⟩
    · exact .inl (Oper.wp_cut h1 (fun a' w' h => by obtain ⟨_, σ', hf, h2, h3⟩ := h; exact ⟨h2, h3 a' hf⟩))
    · exact absurd hh (by simp)
  · rename_i hw
    rw [if_neg hw] at h1
    obtain ⟨_, σ', hf, h2, h3⟩ := h1
    exact ⟨h2, h3 _ hf⟩
theorem wpAnyT_next {md : Region.Mode} {Q : Exit → Act → World → Prop} {S S' : World → Prop} {T T' : Nat} : ∀ (fuel : Nat) (listed : Array Bool) (a : Act) (w : World), (∀ i, listed.getD i true = false → T ≤ i) → wpAnyT P md ops Q S' T' fuel listed a w → wpAnyT P md ops Q S T fuel listed a w
  | 0, _, _, _, _, h => h
  | fuel + 1, listed, a, w, h1, h => ⟨h.1, fun i hi => wpOp_mono (fun a' w' h' => ⟨fun hlt => absurd (h1 i (mem_ready.1 hi).1) (by omega), wpAnyT_next fuel _ a' w' (fun j hj => h1 j (by
      by_cases hji : j = i
      · subst hji; exact (mem_ready.1 hi).1
      · rw [getD_set_ne true (Ne.symm hji)] at hj; exact hj)) h'.2⟩) (h.2 i hi)⟩
/-- All ahead of number T is over. -/
def overB (T : Nat) (listed : Array Bool) : Bool := (List.range listed.size).all fun i => Nat.ble T i || listed.getD i false
theorem WD.next {S' : World → Prop} (T' : Nat) (hB : overB T listed = true) (h : WD P n ops S' T' fuel listed K σ w) : WD P n ops S T fuel listed K σ w := by
  intro a ha
  refine wpAnyT_next (S' := S') (T' := T') fuel listed a w (fun i hi => ?_) (h a ha)
  simp only [overB, List.all_eq_true, List.mem_range, Bool.or_eq_true] at hB
  rcases Nat.lt_or_ge i listed.size with h' | h'
  · rcases hB i h' with h2 | h2
    · simpa using h2
    · rw [Array.getD_eq_getD_getElem?] at hi h2
      simp [h'] at hi h2
      rw [h2] at hi; cases hi
  · rw [Array.getD_eq_getD_getElem?, Array.getElem?_eq_none h'] at hi
    simp at hi
/-- From here on more is known. -/
theorem WD.strong {S' : World → Prop} (h : ∀ w, S' w → S w) (h1 : WD P n ops S' T fuel listed K σ w) : WD P n ops S T fuel listed K σ w :=
  fun a ha => wpAnyT_strong h fuel listed a w (h1 a ha)
end Go.Lv

set_option linter.unusedVariables false
set_option linter.unusedSimpArgs false
namespace Go.Lv
variable {P : Program} {n : Nat} {ops : Array Oper} {rest : List Oper} {K : Env → World → Prop} {Q : Exit → Env → World → Prop} {σ : Env} {w : World}
variable {d : Nat} {ty : TypeId} {pos : String} {after : Array Edge} {A : Reg} {F : List Fact} {L : List Mob}

/-! ### the plain functions' steps -/
theorem bind_some {α β : Type} {o : Option α} {f : α → Option β} {y : β} (h : Option.bind o f = some y) : ∃ x, o = some x ∧ f x = some y := by
  cases o with
  | none => cases h
  | some x => exact ⟨x, rfl, h⟩
theorem getI_spec {α : Type} {l : List α} {i : Int} {x : α} (h : getI l i = some x) : i = (i.toNat : Int) ∧ i.toNat < l.length ∧ l[i.toNat]? = some x := by
  unfold getI at h
  split at h
  · exact ⟨by omega, (List.getElem?_eq_some_iff.1 h).1, h⟩
  · cases h
theorem setI_spec {α : Type} {l l' : List α} {i : Int} {x : α} (h : setI l i x = some l') : i = (i.toNat : Int) ∧ i.toNat < l.length ∧ l' = l.set i.toNat x := by
  unfold setI at h
  split at h
  · cases h; exact ⟨by omega, by omega, rfl⟩
  · cases h
theorem cutI_spec {α : Type} {l x : List α} {lo hi : Int} (h : cutI l lo hi = some x) : lo = (lo.toNat : Int) ∧ hi = (hi.toNat : Int) ∧ lo.toNat ≤ hi.toNat ∧ hi.toNat ≤ l.length ∧ x = (l.take hi.toNat).drop lo.toNat := by
  unfold cutI at h
  split at h
  · cases h; exact ⟨by omega, by omega, by omega, by omega, rfl⟩
  · cases h
theorem appI_spec {α : Type} {l m x : List α} (h : appI l m = some x) : l.length + m.length ≤ LIM ∧ x = l ++ m := by
  unfold appI at h
  split at h
  · cases h; exact ⟨by assumption, rfl⟩
  · cases h
theorem mkI_spec {α : Type} {i : Int} {z : α} {x : List α} (h : mkI i z = some x) : i = (i.toNat : Int) ∧ i.toNat ≤ LIM ∧ x = List.replicate i.toNat z := by
  unfold mkI at h
  split at h
  · rename_i hi
    cases h; exact ⟨by omega, by omega, rfl⟩
  · cases h
theorem okI_spec {b : Bool} {u : Unit} (h : okI b = some u) : b = true := by
  unfold okI at h
  split at h
  · assumption
  · cases h

theorem W.condP {α : Type} {c : Operand} {x y : Code} {t : Bool} {a b : Option α} {r : α} (hp : (if t = true then a else b) = some r) (hc : ev σ c = .bool t)
    (ht : t = true → a = some r → W P n x Q σ w) (hf : t = false → b = some r → W P n y Q σ w) : W P n (.cond c x y) Q σ w :=
  W.cond hc (fun h => ht h (by rw [if_pos h] at hp; exact hp)) (fun h => hf h (by rw [if_neg (by simp [h])] at hp; exact hp))
theorem W.tailJ {c : Code} (J : Env → World → Prop) (h : W P n c (Then J Q) σ w) (h2 : ∀ σ w, J σ w → Q .normal σ w) : W P n c Q σ w :=
  W.mono h fun e σ' w' hh => by cases e <;> first | exact h2 _ _ hh | exact hh

/-! ### facts and mobs put in order -/
theorem St.noF (hs : St A w F L) : St A w [] L := ⟨hs.lt, (fun _ h => by cases h), hs.mobs⟩
theorem St.asF (hs : St A w F L) {F' : List Fact} (h : ∀ f ∈ F', f ∈ F) : St A w F' L := ⟨hs.lt, fun f hf => hs.facts f (h f hf), hs.mobs⟩
theorem St.noM (hs : St A w F L) : St A w F [] := ⟨hs.lt, hs.facts, trivial⟩
theorem St.frontL (hs : St A w F L) {i : Nat} {m : Mob} {L' : List Mob} (hi : L[i]? = some m) (hL : m :: L.eraseIdx i = L') : St A w F L' := hL ▸ hs.front hi
theorem St.dropL (hs : St A w F L) {i : Nat} {m : Mob} {L' : List Mob} (hi : L[i]? = some m) (hL : L.eraseIdx i = L') : St A w F L' := hL ▸ (hs.front hi).dropM
theorem St.as (hs : St A w F L) {F' : List Fact} {L' : List Mob} (hF : F = F') (hL : L = L') : St A w F' L' := hF ▸ hL ▸ hs

/-! ### slices of integers -/
section
variable {T : Type} {k : IntKind} [GI T k]
theorem enc_get {l : List T} {i : Nat} {x : T} (h : l[i]? = some x) : (encL l)[i]? = some (iv x) := by simp [encL, h]
theorem enc_len (l : List T) : (encL l).length = l.length * 1 := by simp [encL]
theorem enc_set (l : List T) (i : Nat) (x : T) (h : i < l.length) : splice (encL l) i [iv x] = encL (l.set i x) := by
  rw [splice_one (by simpa [encL] using h)]; simp [encL, List.map_set]
theorem enc_one (l : List T) : (encL l).all (·.oneCell') = true := by simp [encL, Value.oneCell']
theorem X.lenR {x : Operand} {t e : TypeId} {R : Reg} {j : Nat} {v : Value} {l : List T} (ht : P.underlying t = some (.slice e)) (hs : St A w F L) (hF : F[j]? = some (.rd R 1 v (encL l))) (hx : ev σ x = v) :
    XO P σ w (.call ⟨.builtin .len, #[x], #[t]⟩) (iv (lenI l)) := X.len_rd ht hs hF (m := l.length) (enc_len l) (by decide) hx
theorem X.lenO {x : Operand} {t e E : TypeId} {j : Nat} {v : Value} {l : List T} (ht : P.underlying t = some (.slice e)) (hs : St A w F L) (hL : L[j]? = some (.own 1 E v (encL l))) (hx : ev σ x = v) :
    XO P σ w (.call ⟨.builtin .len, #[x], #[t]⟩) (iv (lenI l)) := X.len_own ht hs hL (m := l.length) (enc_len l) (by decide) hx
theorem X.len0 {x : Operand} {t e : TypeId} (ht : P.underlying t = some (.slice e)) (hx : ev σ x = .slice none 0 0) :
    XO P σ w (.call ⟨.builtin .len, #[x], #[t]⟩) (iv (0 : Int)) := X.len_slice ht hx
theorem X.idxR {t e : TypeId} {R : Reg} {j : Nat} {i : Int} {v : Value} {l : List T} {y : T} (ht : P.underlying t = some (.slice e)) (hsz : SizeIs P e 1) (hs : St A w F L) (hF : F[j]? = some (.rd R 1 v (encL l)))
    (hg : getI l i = some y) : ∃ pv, (∀ (σ : Env) (w : World) (x ix : Operand), ev σ x = v → ev σ ix = iv i → XO P σ w (.indexAddr t x ix) pv) ∧ St A w (.ptr R pv [iv y] :: F) L := by
  obtain ⟨h1, h2, h3⟩ := getI_spec hg
  obtain ⟨pv, h4, h5⟩ := X.index_rd (m := l.length) (i := i.toNat) ht hsz hs hF (enc_len l) (by decide) h2
  refine ⟨pv, fun σ w x ix hx hix => h4 σ w x ix hx (by rw [← h1]; exact hix), ?_⟩
  have e1 : ((encL l).drop (i.toNat * 1)).take 1 = [iv y] := by
    rw [Nat.mul_one]
    have := enc_get h3
    apply List.ext_getElem?
    intro q
    rw [List.getElem?_take, List.getElem?_drop]
    cases q with
    | zero => simpa using this
    | succ q => simp
  rw [e1] at h5; exact h5
theorem X.cutR {t e : TypeId} {R : Reg} {j : Nat} {v : Value} {l y : List T} {a b : Int} (ht : P.underlying t = some (.slice e)) (hsz : SizeIs P e 1) (hs : St A w F L)
    (hF : F[j]? = some (.rd R 1 v (encL l))) (hc : cutI l a b = some y) :
    ∃ p' l' c', (∀ (σ : Env) (w : World) (x : Operand) (lo hi : Option Operand), ev σ x = v → (lo.map (ev σ) = some (iv a) ∨ (lo = none ∧ a = 0)) → (hi.map (ev σ) = some (iv b) ∨ (hi = none ∧ b = lenI l)) → XO P σ w (.slice t x lo hi none) (.slice p' l' c')) ∧
      St A w (.rd R 1 (.slice p' l' c') (encL y) :: F) L := by
  obtain ⟨h1, h2, h3, h4, rfl⟩ := cutI_spec hc
  obtain ⟨p', l', c', h5, h6⟩ := X.slice_rd (m := l.length) (l := a.toNat) (k := b.toNat) ht hsz hs hF (enc_len l) (by decide) h3 h4
  refine ⟨p', l', c', fun σ w x lo hi hx hlo hhi => h5 σ w x lo hi hx (by rcases hlo with h | ⟨h, h'⟩; exact .inl ⟨_, by rw [← h1]; exact h⟩; exact .inr ⟨h, by omega⟩)
    (by rcases hhi with h | ⟨h, h'⟩; exact .inl ⟨_, by rw [← h2]; exact h⟩; exact .inr ⟨h, by rw [h']; simp [lenI]⟩), ?_⟩
  have e1 : ((encL l).take (b.toNat * 1)).drop (a.toNat * 1) = encL ((l.take b.toNat).drop a.toNat) := by simp [encL, List.map_drop, List.map_take]
  rw [e1] at h6; exact h6
/-- Indexing a slice of one's own: its block gets a name. -/
theorem St.idxO {E : TypeId} {j : Nat} {i : Int} {p : Option Addr} {m c : Nat} {l : List T} {y : T} {L' : Nat → List Mob} (hs : St A w F L) (hL : L[j]? = some (.own 1 E (.slice p m c) (encL l)))
    (hg : getI l i = some y) (hL' : ∀ b, L.set j (.at_ b 1 E m c (encL l)) = L' b) : ∃ b, p = some ⟨b, 0, none⟩ ∧ St A w F (L' b) := by
  obtain ⟨h1, h2, h3⟩ := getI_spec hg
  exact hs.rev hL (by simp [encL]; omega) hL'
theorem X.idxA {x ix : Operand} {t e E : TypeId} {j b m c : Nat} {i : Int} {l : List T} {y : T} (ht : P.underlying t = some (.slice e)) (hsz : SizeIs P e 1) (hs : St A w F L) (hL : L[j]? = some (.at_ b 1 E m c (encL l)))
    (hg : getI l i = some y) {p : Option Addr} (he : p = some ⟨b, 0, none⟩) (hx : ev σ x = .slice p m c) (hix : ev σ ix = iv i) : XO P σ w (.indexAddr t x ix) (.pointer (some ⟨b, i.toNat, none⟩)) := by
  subst he
  obtain ⟨h1, h2, h3⟩ := getI_spec hg
  have := X.index_at (P := P) (σ := σ) (i := i.toNat) ht hsz hs hL (k := l.length) (enc_len l) (by decide) h2 hx (by rw [← h1]; exact hix)
  rw [Nat.mul_one] at this; exact this
theorem St.hideP {E : TypeId} {i b s m c : Nat} {cs : List Value} {p : Option Addr} (hs : St A w F L) (he : p = some ⟨b, 0, none⟩) (hL : L[i]? = some (.at_ b s E m c cs)) : St A w F (L.set i (.own s E (.slice p m c) cs)) := by
  subst he; exact hs.hide hL
theorem X.loadA {x : Operand} {t E : TypeId} {j b m c : Nat} {i : Int} {l : List T} {y : T} (hs : St A w F L) (hL : L[j]? = some (.at_ b 1 E m c (encL l))) (ht : Plain P t) (hg : getI l i = some y)
    (hx : ev σ x = .pointer (some ⟨b, i.toNat, none⟩)) : XO P σ w (.load t x) (iv y) := X.load_at hs hL ht hx (enc_get (getI_spec hg).2.2)
theorem WL.storeA {a x : Operand} {t E : TypeId} {j b m c : Nat} {i : Int} {l l' : List T} {y : T} {L' : List Mob} (hs : St A w F L) (hL : L[j]? = some (.at_ b 1 E m c (encL l))) (hsz : SizeIs P t 1)
    (ha : ev σ a = .pointer (some ⟨b, i.toNat, none⟩)) (hx : ev σ x = iv y) (hg : setI l i y = some l') (hL' : L.set j (.at_ b 1 E m c (encL l')) = L') (h : ∀ w', St A w' F L' → WL P n ops rest K σ w') :
    WL P n ops (⟨none, .store t a x, ty, pos, after, none⟩ :: rest) K σ w := by
  obtain ⟨h1, h2, rfl⟩ := setI_spec hg
  exact WL.store_at hs hL hsz ha hx rfl rfl rfl (by simp [encL]; omega) (enc_set l _ y h2) hL' h
theorem WL.appO {x y : Operand} {t t2 e : TypeId} {i : Nat} {vx vy : Value} {l m r : List T} {L' : Option Addr → Nat → Nat → List Mob} (ht : P.underlying t = some (.slice e)) (ht2 : ∃ e2, P.underlying t2 = some (.slice e2)) (he : ElemOk P e 1)
    (hs : St A w F L) (hL : L[i]? = some (.own 1 e vx (encL l))) (hd : Nat.blt d n = true) (hx : ev σ x = vx) (hy : ev σ y = vy) (hyr : Rd (fun _ => True) w 1 vy (encL m)) (ha : appI l m = some r)
    (hL' : ∀ p q c, L.set i (.own 1 e (.slice p q c) (encL r)) = L' p q c) (h : ∀ p q c w', St A w' F (L' p q c) → WL P n ops rest K (upd σ d (.slice p q c)) w') :
    WL P n ops (⟨some d, .call ⟨.builtin .append, #[x, y], #[t, t2]⟩, ty, pos, after, none⟩ :: rest) K σ w := by
  obtain ⟨h1, rfl⟩ := appI_spec ha
  exact WL.append ht ht2 he hs hL hd hx hy hyr (enc_one m) (enc_len l) (enc_len m) h1 (fun p q c => by rw [← hL' p q c]; simp [encL]) h
theorem enc_flat (xs : List T) : ((xs.map fun x => (iv x : Value)).map (·.cells.toList)).flatten = encL xs := by
  induction xs with
  | nil => rfl
  | cons x xs ih => simp only [List.map_cons, List.flatten_cons, encL] at ih ⊢; rw [ih]; rfl
theorem WL.bsI {t e : TypeId} {len : Nat} {parts : List (Nat × Operand)} (xs : List T) (ht : P.underlying t = some (.slice e)) (he : ElemOk P e 1) (hs : St A w F L) (hd : Nat.blt d n = true)
    (hp : (parts.map fun p => (p.1, ev σ p.2)) = ((encL xs).zipIdx 0).map fun p => (p.2, p.1)) (hl : xs.length = len) (hlen : Nat.ble (len * 1) 4096 = true)
    (h : ∀ p l c w', St A w' F (.own 1 e (.slice p l c) (encL xs) :: L) → WL P n ops rest K (upd σ d (.slice p l c)) w') :
    WL P n ops (⟨some d, .buildSlice t len parts.toArray, ty, pos, after, none⟩ :: rest) K σ w :=
  WL.buildSlice (vs := encL xs) ht he hs hd hp (by simpa [encL] using hl) hlen (fun v hv => by simp only [encL, List.mem_map] at hv; obtain ⟨_, _, rfl⟩ := hv; rfl) (enc_flat xs) h
theorem WL.mkI {t e : TypeId} {lo co : Operand} {i : Int} {z : T} {r : List T} (ht : P.underlying t = some (.slice e)) (he : ElemOk P e 1) (hz : ∃ i, P.info? e = some i ∧ i.zero = some (iv z)) (hs : St A w F L)
    (hd : Nat.blt d n = true) (hl : ev σ lo = iv i) (hc : ev σ co = iv i) (hm : mkI i z = some r) (h : ∀ p l c w', St A w' F (.own 1 e (.slice p l c) (encL r) :: L) → WL P n ops rest K (upd σ d (.slice p l c)) w') :
    WL P n ops (⟨some d, .makeSlice t lo co, ty, pos, after, none⟩ :: rest) K σ w := by
  obtain ⟨h1, h2, rfl⟩ := mkI_spec hm
  refine WL.makeSlice (m := i.toNat) (zs := [iv z]) ht he hz rfl hs hd (by rw [← h1]; exact hl) (by rw [← h1]; exact hc) h2 (fun p l c w' hs' => h p l c w' ?_)
  have e1 : (List.replicate i.toNat [(iv z : Value)]).flatten = encL (List.replicate i.toNat z) := by
    generalize i.toNat = q
    induction q with
    | zero => rfl
    | succ q ih => simp only [List.replicate_succ, List.flatten_cons, encL, List.map_cons] at ih ⊢; rw [ih]; rfl
  rw [e1] at hs'; exact hs'
end
theorem St.rdT (hs : St A w F L) {j s : Nat} {R : Reg} {v : Value} {cs : List Value} (hF : F[j]? = some (.rd R s v cs)) : Rd (fun b => A b ∧ R b) w s v cs := hs.fact j hF
theorem Rd.any {R : Reg} {s : Nat} {v : Value} {cs : List Value} (h : Rd R w s v cs) : Rd (fun _ => True) w s v cs := h.step (fun _ _ => trivial) (fun _ _ => rfl)
theorem Rd.weak {R R' : Reg} {s : Nat} {v : Value} {cs : List Value} (h : Rd R w s v cs) (h' : ∀ b, R b → R' b) : Rd R' w s v cs := h.step h' (fun _ _ => rfl)
end Go.Lv

set_option linter.unusedVariables false
set_option linter.unusedSimpArgs false
namespace Go.Lv
variable {P : Program} {n : Nat} {ops : Array Oper} {rest : List Oper} {K : Env → World → Prop} {Q : Exit → Env → World → Prop} {σ : Env} {w : World}
variable {d : Nat} {ty : TypeId} {pos : String} {after : Array Edge} {A : Reg} {F : List Fact} {L : List Mob}
/-! ### a program's facts on types, by the kernel -/
theorem UndIs.plain {t : TypeId} (h : (P.underlying t).map aggB = some false) : Plain P t := by
  cases hu : P.underlying t with
  | none => rw [hu] at h; cases h
  | some u => rw [hu] at h; exact ⟨u, hu, by simpa using h⟩
theorem UndIs.aggr {t : TypeId} (h : (P.underlying t).map aggB = some true) : Aggr P t := by
  cases hu : P.underlying t with
  | none => rw [hu] at h; cases h
  | some u => rw [hu] at h; exact ⟨u, hu, by simpa using h⟩
theorem SizeIs.mk {t : TypeId} {s : Nat} (h : (P.info? t).map (·.size) = some s) : SizeIs P t s := by
  cases hu : P.info? t with
  | none => rw [hu] at h; cases h
  | some u => rw [hu] at h; exact ⟨u, hu, by simpa using h⟩
theorem ZeroIs.mk {t : TypeId} {z : Value} (h : (P.info? t).bind (·.zero) = some z) : ∃ i, P.info? t = some i ∧ i.zero = some z := by
  cases hu : P.info? t with
  | none => rw [hu] at h; cases h
  | some u => rw [hu] at h; exact ⟨u, rfl, h⟩
theorem ElemOk.mk' {t : TypeId} {s b : Nat} (z : Value) (h : (P.info? t).map (fun i => (i.size, i.zero, i.bytes)) = some (s, some z, b)) (hz : z.cells.size = s) (hp : 0 < s) (hb : b ≤ 4096) : ElemOk P t s := by
  cases hu : P.info? t with
  | none => rw [hu] at h; cases h
  | some u =>
    rw [hu] at h; simp at h
    exact ⟨⟨u, z, hu, h.1, h.2.1, hz, by omega⟩, hp⟩
def fieldInfo (P : Program) (t : TypeId) (f : Nat) : Option (Nat × Nat) :=
  match P.underlying t with
  | some (.struct fs) => (fs[f]?).bind fun fd => (P.info? fd.type).map fun i => (fd.offset, i.size)
  | _ => none
theorem FieldAt.mk {t : TypeId} {f k s : Nat} (h : fieldInfo P t f = some (k, s)) (hs : s ≠ 0) : FieldAt P t f k := by
  unfold fieldInfo at h
  split at h
  · rename_i fs hu
    cases hf : fs[f]? with
    | none => rw [hf] at h; cases h
    | some fd =>
      rw [hf] at h; simp at h
      obtain ⟨i, hi, h1, h2⟩ := h
      exact ⟨fs, fd, i, hu, hf, h1, hi, by omega⟩
  · cases h
/-! ### results that lie in a variable -/
theorem ResOne.cell {a : Tmp} {t T : TypeId} {i b off : Nat} {cells : List Value} {v : Value} (hs : St A w F L) (hL : L[i]? = some (.box b cells T)) (ht : Plain P t)
    (hx : σ a = .pointer (some ⟨b, off, none⟩)) (hv : cells[off]? = some v) : ResOne P σ w (.cell a t) v := by
  obtain ⟨u, hu, hp⟩ := ht
  have hc : w.cell? ⟨b, off, none⟩ = some v := by rw [cell_of (hs.box hL)]; simpa using hv
  exact ⟨_, hx, by simp only [loadVar, Sem.run_bind, run_isAgg_of hu hp, Result.andThen_ok, Bool.false_eq_true, if_false, run_load_cell hc]⟩
theorem ResOne.cells {a : Tmp} {t T : TypeId} {i b off s : Nat} {cells vs : List Value} (hs : St A w F L) (hL : L[i]? = some (.box b cells T)) (ht : Aggr P t) (hsz : SizeIs P t s)
    (hx : σ a = .pointer (some ⟨b, off, none⟩)) (hv : (cells.drop off).take s = vs) (hl : vs.length = s) : ResOne P σ w (.cell a t) (.agg vs.toArray) := by
  obtain ⟨u, hu, hp⟩ := ht
  have hc := run_loadCells_of (P := P) (w := w) (b := b) (off := off) vs (fun j hj => by
    rw [cell_of (hs.box hL)]
    subst hv
    rw [List.length_take] at hj
    simp [List.getElem?_take, List.getElem?_drop]
    omega)
  rw [hl] at hc
  exact ⟨_, hx, by simp only [loadVar, Sem.run_bind, run_isAgg_of hu hp, Result.andThen_ok, if_true, run_sizeOf_of hsz, hc, Sem.run_pure]⟩
theorem new_of (hs : St A w F L) {w0 : World} {i : Nat} (hF : F[i]? = some (.old (fun _ => False) w0)) : ∀ b, ¬ A b → New w0 b := by
  obtain ⟨h1, h2⟩ := hs.fact i hF
  intro b hb
  rcases Nat.lt_or_ge b w0.heap.size with h | h
  · exact absurd (h2 b h (fun h => h)).1 hb
  · exact h
theorem St.dropAt (hs : St A w F L) {i : Nat} {m : Mob} (hi : L[i]? = some m) : St A w F (L.eraseIdx i) := (hs.front hi).dropM
theorem St.sameHeap (hs : St A w F L) {w' : World} (h : w'.heap = w.heap) (hg : Gr w w') : St A w' F L :=
  hs.keep ⟨fun b _ => by rw [h], hg⟩
theorem gv_off {b want : Bool} {v : Value} (h : (b == want) = false) : gv b want v = undef := by unfold gv; rw [if_neg (by rw [h]; decide)]
theorem seg_if {α : Type} {b : Bool} {a c : Option α} {r : α} {G : Prop} (hp : (if b = true then a else c) = some r) (h1 : b = true → a = some r → G) (h2 : b = false → c = some r → G) : G := by
  cases b with
  | true => exact h1 rfl (by simpa using hp)
  | false => exact h2 rfl (by simpa using hp)
theorem cons_eq {α : Type} {a b : α} {l m : List α} (h : a = b) (h' : l = m) : a :: l = b :: m := by rw [h, h']
theorem cast_world {w0 : World} {p : World → Prop} (hw : w = w0) (h : p w) : p w0 := hw ▸ h
theorem gne_ne {T : Type} {k : IntKind} [GI T k] {a b : T} (h : gne a b = true) (hb : GI.toZ b = 0 := by rfl) : GI.toZ a ≠ 0 := by
  simp [gne] at h; rw [hb] at h; exact h
theorem gge_le {a : Int} (h : gge a 0 = true) : 0 ≤ GI.toZ a := by simp [gge] at h; exact h
theorem wrap_u8 {n : Int} (h : 0 ≤ n) (h' : n < 256) : IntKind.u8.wrap n = n := by
  simp only [IntKind.wrap, IntKind.bits, IntKind.signed, Bool.false_and, Bool.false_eq_true, if_false]
  exact Int.emod_eq_of_lt h h'
theorem wrap_u32 {n : Int} (h : 0 ≤ n) (h' : n < 4294967296) : IntKind.u32.wrap n = n := by
  simp only [IntKind.wrap, IntKind.bits, IntKind.signed, Bool.false_and, Bool.false_eq_true, if_false]
  exact Int.emod_eq_of_lt h h'
theorem wrap_u64 {n : Int} (h : 0 ≤ n) (h' : n < 18446744073709551616) : IntKind.u64.wrap n = n := by
  simp only [IntKind.wrap, IntKind.bits, IntKind.signed, Bool.false_and, Bool.false_eq_true, if_false]
  exact Int.emod_eq_of_lt h h'
theorem Bin.rem_i64 {t : TypeId} (a b : Int) (h : GI.toZ b ≠ 0) : BinOk P .rem t (iv a) (iv b) (iv (irem a b)) := fun _ _ w => by
  have h' : b ≠ 0 := h
  simp [eqGuard, binOp, Op.intDiv, irem, iv, GI.toZ, h']
theorem tmod_lt {a b : Int} {m : Int} (ha : 0 ≤ a) (h : a < m) : 0 ≤ a.tmod b ∧ a.tmod b < m := by
  have h1 := Int.tmod_nonneg b ha
  have h2 := Int.natAbs_tmod a b
  have h3 := Nat.mod_le a.natAbs b.natAbs
  omega
theorem Bin.rem_u8 {t : TypeId} (a b : UInt8) (h : GI.toZ b ≠ 0) : BinOk P .rem t (iv a) (iv b) (iv (grem a b)) := fun _ _ w => by
  have h1 : (0 : Int) ≤ GI.toZ a := Int.natCast_nonneg _
  have h2 : (GI.toZ a : Int) < 256 := by have := a.toNat_lt; show ((a.toNat : Nat) : Int) < 256; omega
  obtain ⟨h3, h4⟩ := tmod_lt (b := GI.toZ b) h1 h2
  simp [eqGuard, binOp, Op.intDiv, grem, ← ofZ_val, h, wrap_u8 h3 h4]
theorem Bin.rem_u32 {t : TypeId} (a b : UInt32) (h : GI.toZ b ≠ 0) : BinOk P .rem t (iv a) (iv b) (iv (grem a b)) := fun _ _ w => by
  have h1 : (0 : Int) ≤ GI.toZ a := Int.natCast_nonneg _
  have h2 : (GI.toZ a : Int) < 4294967296 := by have := a.toNat_lt; show ((a.toNat : Nat) : Int) < 4294967296; omega
  obtain ⟨h3, h4⟩ := tmod_lt (b := GI.toZ b) h1 h2
  simp [eqGuard, binOp, Op.intDiv, grem, ← ofZ_val, h, wrap_u32 h3 h4]
theorem Bin.rem_u64 {t : TypeId} (a b : UInt64) (h : GI.toZ b ≠ 0) : BinOk P .rem t (iv a) (iv b) (iv (grem a b)) := fun _ _ w => by
  have h1 : (0 : Int) ≤ GI.toZ a := Int.natCast_nonneg _
  have h2 : (GI.toZ a : Int) < 18446744073709551616 := by have := a.toNat_lt; show ((a.toNat : Nat) : Int) < 18446744073709551616; omega
  obtain ⟨h3, h4⟩ := tmod_lt (b := GI.toZ b) h1 h2
  simp [eqGuard, binOp, Op.intDiv, grem, ← ofZ_val, h, wrap_u64 h3 h4]
section
variable {T' : Type} {k' : IntKind} [GI T' k']
theorem Bin.shr_i64 {t : TypeId} (a : Int) (b : T') (h : 0 ≤ GI.toZ b) : BinOk P .shr t (iv a) (iv b) (iv (ishr a (GI.toZ b).toNat)) := fun _ _ w => by
  have : ¬ GI.toZ b < 0 := by omega
  simp [eqGuard, binOp, Op.shift, ishr, iv, GI.toZ, this, IntKind.bits]
theorem fdiv_lt {a m : Int} {q : Nat} (ha : 0 ≤ a) (h : a < m) : 0 ≤ a.fdiv (2 ^ q) ∧ a.fdiv (2 ^ q) < m := by
  have hp : (0 : Int) < 2 ^ q := Int.pow_pos (by decide)
  rw [Int.fdiv_eq_ediv_of_nonneg _ (by omega)]
  have h1 := Int.ediv_nonneg ha (Int.le_of_lt hp)
  have h2 := Int.ediv_le_self (2 ^ q) ha
  omega
theorem Bin.shr_u8 {t : TypeId} (a : UInt8) (b : T') (h : 0 ≤ GI.toZ b) : BinOk P .shr t (iv a) (iv b) (iv (gshr a (GI.toZ b).toNat)) := by
  have h1 : (0 : Int) ≤ GI.toZ a := Int.natCast_nonneg _
  have h2 : (GI.toZ a : Int) < 256 := by have := a.toNat_lt; show ((a.toNat : Nat) : Int) < 256; omega
  obtain ⟨h3, h4⟩ := fdiv_lt (q := min (GI.toZ b).toNat IntKind.u8.bits) h1 h2
  exact Bin.shr a b h (wrap_u8 h3 h4)
theorem Bin.shr_u32 {t : TypeId} (a : UInt32) (b : T') (h : 0 ≤ GI.toZ b) : BinOk P .shr t (iv a) (iv b) (iv (gshr a (GI.toZ b).toNat)) := by
  have h1 : (0 : Int) ≤ GI.toZ a := Int.natCast_nonneg _
  have h2 : (GI.toZ a : Int) < 4294967296 := by have := a.toNat_lt; show ((a.toNat : Nat) : Int) < 4294967296; omega
  obtain ⟨h3, h4⟩ := fdiv_lt (q := min (GI.toZ b).toNat IntKind.u32.bits) h1 h2
  exact Bin.shr a b h (wrap_u32 h3 h4)
theorem Bin.shr_u64 {t : TypeId} (a : UInt64) (b : T') (h : 0 ≤ GI.toZ b) : BinOk P .shr t (iv a) (iv b) (iv (gshr a (GI.toZ b).toNat)) := by
  have h1 : (0 : Int) ≤ GI.toZ a := Int.natCast_nonneg _
  have h2 : (GI.toZ a : Int) < 18446744073709551616 := by have := a.toNat_lt; show ((a.toNat : Nat) : Int) < 18446744073709551616; omega
  obtain ⟨h3, h4⟩ := fdiv_lt (q := min (GI.toZ b).toNat IntKind.u64.bits) h1 h2
  exact Bin.shr a b h (wrap_u64 h3 h4)
theorem wrap_i32 {n : Int} (h : -2147483648 ≤ n) (h' : n < 2147483648) : IntKind.i32.wrap n = n := by
  simp only [IntKind.wrap, IntKind.bits, IntKind.signed, Bool.true_and]
  change (if decide (n % 4294967296 ≥ 2147483648) = true then n % 4294967296 - 4294967296 else n % 4294967296) = n
  by_cases hn : n % 4294967296 ≥ 2147483648
  · rw [if_pos (by simpa using hn)]; omega
  · rw [if_neg (by simpa using hn)]; omega
theorem fdiv_in {a m : Int} {q : Nat} (h0 : -m ≤ a) (h : a < m) (hm : 0 < m) : -m ≤ a.fdiv (2 ^ q) ∧ a.fdiv (2 ^ q) < m := by
  have hp : (0 : Int) < 2 ^ q := Int.pow_pos (by decide)
  rw [Int.fdiv_eq_ediv_of_nonneg _ (by omega)]
  generalize (2 : Int) ^ q = p at hp
  refine ⟨?_, ?_⟩
  · rw [Int.le_ediv_iff_mul_le hp]
    have : m * 1 ≤ m * p := Int.mul_le_mul_of_nonneg_left (by omega) (by omega)
    rw [Int.neg_mul]; omega
  · rw [Int.ediv_lt_iff_lt_mul hp]
    have : m * 1 ≤ m * p := Int.mul_le_mul_of_nonneg_left (by omega) (by omega)
    omega
theorem i32_range (a : Int32) : -2147483648 ≤ GI.toZ a ∧ GI.toZ a < 2147483648 := by
  have h1 := a.le_toInt; have h2 := a.toInt_lt
  exact ⟨h1, h2⟩
theorem Bin.shr_i32 {t : TypeId} (a : Int32) (b : T') (h : 0 ≤ GI.toZ b) : BinOk P .shr t (iv a) (iv b) (iv (gshr a (GI.toZ b).toNat)) := by
  obtain ⟨h1, h2⟩ := i32_range a
  obtain ⟨h3, h4⟩ := fdiv_in (q := min (GI.toZ b).toNat IntKind.i32.bits) h1 h2 (by decide)
  exact Bin.shr a b h (wrap_i32 h3 h4)
end
end Go.Lv

set_option linter.unusedVariables false
set_option linter.unusedSimpArgs false
namespace Go.Lv
variable {P : Program} {n : Nat} {ops : Array Oper} {rest : List Oper} {K : Env → World → Prop} {Q : Exit → Env → World → Prop} {σ : Env} {w : World}
variable {d : Nat} {ty : TypeId} {pos : String} {after : Array Edge} {A : Reg} {F : List Fact} {L : List Mob}
theorem run_equalIn_nil {t e : TypeId} (hu : P.underlying t = some (.slice e)) (q : Nat) (p : Option Addr) (l c : Nat) (w : World) : (Op.equalIn (q + 1) t (.slice p l c) (.slice none 0 0)).run P w = .ok p.isNone w := by
  cases p <;> simp [Op.equalIn, run_underlying hu]
theorem Bin.nil_eql {t e : TypeId} (hu : P.underlying t = some (.slice e)) (p : Option Addr) (l c : Nat) : BinOk P .eql t (.slice p l c) (.slice none 0 0) (.bool p.isNone) := fun _ _ w => by
  have h := run_equalIn_nil hu 9999 p l c w
  simp only [eqGuard, binOp, Op.equal, Op.maxDepth]
  simp [h]
theorem Bin.nil_neq {t e : TypeId} (hu : P.underlying t = some (.slice e)) (p : Option Addr) (l c : Nat) : BinOk P .neq t (.slice p l c) (.slice none 0 0) (.bool p.isSome) := fun _ _ w => by
  have h := run_equalIn_nil hu 9999 p l c w
  simp only [eqGuard, binOp, Op.equal, Op.maxDepth]
  cases p <;> simp [h]
theorem Rd.none_nil {R : Reg} {s l c : Nat} {cs : List Value} (h : Rd R w s (.slice none l c) cs) : cs = [] := by
  obtain ⟨p, len, cap, e, h2, h3, h4, _⟩ := h
  cases e
  have := h4 rfl
  have h5 : cs.length = 0 := by rw [h2, show l = 0 by omega, Nat.zero_mul]
  exact List.length_eq_zero_iff.1 h5
/-- Bytes of one's own taken as bytes: the block is marked, nothing else. -/
theorem WL.convS {x : Operand} {t e E : TypeId} {i : Nat} {v : Value} {cs : List Value} (ht : P.underlying t = some (.slice e)) (he : P.underlying e = some (.int .u8)) (hs : St A w F L)
    (hL : L[i]? = some (.own 1 E v cs)) (hne : 0 < cs.length) (hd : Nat.blt d n = true) (hx : ev σ x = v) (h : ∀ w', St A w' F L → WL P n ops rest K (upd σ d v) w') :
    WL P n ops (⟨some d, .convert t t x, ty, pos, after, none⟩ :: rest) K σ w := by
  have hm := (hs.front hL).mobs
  obtain ⟨q, hq, h3, h4⟩ := hm
  obtain ⟨p, len, cap, rfl, h5, h6, h7, h8, h9⟩ := hq
  have hcap : 0 < cap := by omega
  obtain ⟨b, rfl⟩ : ∃ b, q = some b := by
    cases q with
    | none => exact absurd (h8 rfl) (by omega)
    | some b => exact ⟨b, rfl⟩
  obtain ⟨arr, fr, rfl, hb, hsz, hfz, hc⟩ := h9 b rfl
  obtain ⟨lo, hi⟩ := fr
  have hlt := lt_of_heap hb
  have hfr : ∃ fr', w.freeze ⟨b, arr.size, none⟩ 1 = setBlk w b (.cells arr E fr') ∧ (fr'.1 = fr'.2 ∨ arr.size ≤ fr'.1) := by
    refine ⟨(if lo == hi then (arr.size, arr.size + 1) else (min lo arr.size, max hi (arr.size + 1))), ?_, ?_⟩
    · unfold World.freeze setBlk
      rw [if_neg (by decide)]
      congr 1
      apply Array.ext
      · simp
      · intro k h1 h2
        simp only [Array.getElem_modify, Array.getElem_setIfInBounds]
        by_cases hk : b = k
        · subst hk
          have : w.heap[b] = .cells arr E (lo, hi) := by
            have := Array.getElem?_eq_getElem (xs := w.heap) hlt
            rw [hb] at this; exact (Option.some.inj this).symm
          simp [this]
        · rw [if_neg hk, Array.getElem_setIfInBounds_ne _ hk]
    · by_cases hlh : lo = hi
      · simp [hlh]
      · rw [if_neg (by simpa using hlh)]
        rcases hfz with h | h
        · exact absurd h hlh
        · right; simp at h ⊢; omega
  obtain ⟨fr', hfr, hfz'⟩ := hfr
  have hsh : w.shape? b = some (E, arr.size) := by simp [World.shape?, hb]
  have hs' : St A (setBlk w b (.cells arr E fr')) F L := by
    have h10 : St A (setBlk w b (.cells arr E fr')) F (L.set i (.own 1 E (.slice (some ⟨b, 0, none⟩) len cap) cs)) :=
      hs.setMobAt hL ⟨some ⟨b, 0, none⟩, len, cap, rfl, h5, h6, h7, h8, fun c hc' => by cases hc'; exact ⟨arr, (lo, hi), rfl, hb, hsz, hfz, hc⟩⟩
        ⟨some ⟨b, 0, none⟩, len, cap, rfl, h5, h6, h7, (fun h => by cases h), fun c hc' => by cases hc'; exact ⟨arr, fr', rfl, by simp [setBlk, hlt], hsz, hfz', hc⟩⟩
        (fun _ => ⟨some b, ⟨some ⟨b, 0, none⟩, len, cap, rfl, h5, h6, h7, h8, fun c hc' => by cases hc'; exact ⟨arr, (lo, hi), rfl, hb, hsz, hfz, hc⟩⟩, h3, h4, rfl⟩)
    have h11 : L.set i (.own 1 E (.slice (some ⟨b, 0, none⟩) len cap) cs) = L := by
      apply List.ext_getElem?
      intro k
      rw [List.getElem?_set]
      by_cases hik : i = k
      · subst hik
        rw [if_pos rfl]
        have hlt := (List.getElem?_eq_some_iff.1 hL).1
        rw [if_pos hlt, hL]
      · rw [if_neg hik]
    rw [h11] at h10; exact h10
  refine .val rfl rfl hd (v := .slice (some ⟨b, 0, none⟩) len cap) (w' := setBlk w b (.cells arr E fr')) ?_ (h _ hs')
  simp [execOp, hx, convert, run_underlying ht, run_underlying he, markStringish, hsh, hfr]
end Go.Lv

set_option linter.unusedVariables false
set_option linter.unusedSimpArgs false
namespace Go.Lv
variable {P : Program} {n : Nat} {ops : Array Oper} {rest : List Oper} {K : Env → World → Prop} {Q : Exit → Env → World → Prop} {σ : Env} {w : World}
variable {d : Nat} {ty : TypeId} {pos : String} {after : Array Edge} {A : Reg} {F : List Fact} {L : List Mob}
def structInfo (P : Program) (t : TypeId) : Option (List (Nat × Option Nat) × Option (Option (Array Value))) :=
  match P.underlying t with
  | some (.struct fs) => some (fs.toList.map fun f => (f.offset, (P.info? f.type).map (·.size)), (P.info? t).map fun i => i.zero.map (·.cells))
  | _ => none
/-- A struct's places and its zero's cells. -/
def StructIs (P : Program) (t : TypeId) (pl : List (Nat × Nat)) (z : List Value) : Prop :=
  structInfo P t = some (pl.map fun p => (p.1, some p.2), some (some z.toArray))
theorem StructIs.mk {t : TypeId} {pl : List (Nat × Nat)} {z : List Value} (h : structInfo P t = some (pl.map fun p => (p.1, some p.2), some (some z.toArray))) : StructIs P t pl z := h
theorem run_places {fs : List Field} : ∀ {pl : List (Nat × Nat)}, (fs.map fun f => (f.offset, (P.info? f.type).map (·.size))) = (pl.map fun p => (p.1, some p.2)) →
    (fs.mapM fun f => do pure (f.offset, ← sizeOf f.type) : Sem (List (Nat × Nat))).run P w = .ok pl w := by
  induction fs with
  | nil => intro pl h; cases pl with | nil => rfl | cons _ _ => simp at h
  | cons f fs ih =>
    intro pl h
    cases pl with
    | nil => simp at h
    | cons p pl =>
      simp only [List.map_cons, List.cons.injEq, Prod.mk.injEq] at h
      obtain ⟨⟨h1, h2⟩, h3⟩ := h
      have hs : SizeIs P f.type p.2 := SizeIs.mk h2
      simp only [List.mapM_cons, Sem.run_bind, run_sizeOf_of hs, Result.andThen_ok, Sem.run_pure, ih h3, h1]
theorem X.build {t : TypeId} {pl : List (Nat × Nat)} {z : List Value} {parts : List (Nat × Operand)} {vs : List (Nat × Value)} {cells : List Value} (ht : StructIs P t pl z)
    (hp : (parts.map fun p => (p.1, ev σ p.2)) = vs) (hf : Instr.fill (pl[·]?) z.toArray vs = some cells.toArray) : XO P σ w (.build t parts.toArray) (.agg cells.toArray) := fun _ _ _ _ _ => by
  unfold StructIs structInfo at ht
  split at ht
  · rename_i fs hu
    simp only [Option.some.injEq, Prod.mk.injEq] at ht
    obtain ⟨h1, h2⟩ := ht
    have hz : ∃ i zv, P.info? t = some i ∧ i.zero = some zv ∧ zv.cells = z.toArray := by
      cases hi : P.info? t with
      | none => rw [hi] at h2; simp at h2
      | some i =>
        rw [hi] at h2
        simp only [Option.map_some, Option.some.injEq] at h2
        cases hz : i.zero with
        | none => rw [hz] at h2; simp at h2
        | some zv => rw [hz] at h2; exact ⟨i, zv, rfl, hz, by simpa using h2⟩
    obtain ⟨i, zv, hi, hz, hzc⟩ := hz
    have hr := run_places (w := w) h1
    have hm : (fs.mapM fun f => do pure (f.offset, ← sizeOf f.type) : Sem (Array (Nat × Nat))).run P w = .ok pl.toArray w := by
      obtain ⟨l⟩ := fs
      rw [List.mapM_toArray]
      simp only [map_eq_pure_bind, Sem.run_bind, hr, Result.andThen_ok, Sem.run_pure]
    have hf' : Instr.fill (fun x => pl.toArray[x]?) z.toArray vs = some cells.toArray := by rw [← hf]; congr 1; funext x; simp
    simp only [execOp, Instr.build, Sem.run_bind, zeroValue, typeInfo]
    have hm2 := hm
    simp only [bind_pure_comp] at hm2
    simp [hi, hz, hzc, run_underlying hu, hm2, hp, hf, hf']
  · cases ht
theorem X.strAdd {t t' : TypeId} {x y : Operand} {a b r : List UInt8} (hx : ev σ x = sv a) (hy : ev σ y = sv b) (h : appI a b = some r) : XO P σ w (.binOp .add t x y t') (sv r) := by
  obtain ⟨h1, rfl⟩ := appI_spec h
  have hl : LIM = 17179869184 := by decide
  exact X.bin hx hy (Bin.str_add a b (by omega))
theorem ba_extract (l : List UInt8) (a b : Nat) : (⟨l.toArray⟩ : ByteArray).extract a b = ⟨((l.take b).drop a).toArray⟩ := by
  apply ByteArray.ext
  rw [ByteArray.data_extract]
  simp [List.drop_take]
theorem X.cutS {t : TypeId} {x : Operand} {lo hi : Option Operand} {l y : List UInt8} {a b : Int} (ht : P.underlying t = some .string) (hx : ev σ x = sv l) (hc : cutI l a b = some y)
    (hlo : (∃ q, lo.map (ev σ) = some (.int q a)) ∨ (lo = none ∧ a = 0)) (hhi : (∃ q, hi.map (ev σ) = some (.int q b)) ∨ (hi = none ∧ b = lenI l)) : XO P σ w (.slice t x lo hi none) (sv y) := fun _ _ _ _ _ => by
  obtain ⟨h1, h2, h3, h4, rfl⟩ := cutI_spec hc
  have hsz : (⟨l.toArray⟩ : ByteArray).size = l.length := by simp [ByteArray.size]
  have hlo' : (∃ q, lo.map (ev σ) = some (.int q (a.toNat : Int))) ∨ (lo.map (ev σ) = none ∧ a.toNat = 0) := by
    rcases hlo with ⟨q, h⟩ | ⟨h, h'⟩
    · left; exact ⟨q, by rw [h, ← h1]⟩
    · right; exact ⟨by rw [h]; rfl, by omega⟩
  have hhi' : (∃ q, hi.map (ev σ) = some (.int q (b.toNat : Int))) ∨ (hi.map (ev σ) = none ∧ b.toNat = l.length) := by
    rcases hhi with ⟨q, h⟩ | ⟨h, h'⟩
    · left; exact ⟨q, by rw [h, ← h2]⟩
    · right; refine ⟨by rw [h]; rfl, ?_⟩; rw [h']; simp [lenI]
  simp only [execOp, hx, Instr.sliceAt, Sem.run_bind, run_underlying ht, Result.andThen_ok, Option.map_none]
  generalize lo.map (ev σ) = vlo at hlo' ⊢
  generalize hi.map (ev σ) = vhi at hhi' ⊢
  clear hlo hhi h1 h2 hc
  generalize a.toNat = A at *
  generalize b.toNat = B at *
  clear a b
  rcases hlo' with ⟨q, rfl⟩ | ⟨rfl, rfl⟩ <;> rcases hhi' with ⟨q', rfl⟩ | ⟨rfl, rfl⟩ <;>
    simp [Instr.slice, run_underlying ht, Instr.sliceBounds, Instr.sliceBound, asIntOf, hsz, ba_extract, h3, h4]
theorem Src.string {t2 : TypeId} {l : List UInt8} (ht2 : P.underlying t2 = some .string) : Src P w t2 (sv l) 1 l.length (encL l) := by
  refine ⟨⟨_, ht2, .inr rfl⟩, fun _ => by simp [Builtin.lenOf, ByteArray.size], fun w2 _ => ?_⟩
  simp only [Builtin.firstCells, Sem.run_pure, ba_extract]
  simp [encL, iv_u8]
theorem WL.appSt {x y : Operand} {t t2 e : TypeId} {i : Nat} {vx : Value} {l m r : List UInt8} {L' : Option Addr → Nat → Nat → List Mob} (ht : P.underlying t = some (.slice e)) (ht2 : P.underlying t2 = some .string) (he : ElemOk P e 1)
    (hs : St A w F L) (hL : L[i]? = some (.own 1 e vx (encL l))) (hd : Nat.blt d n = true) (hx : ev σ x = vx) (hy : ev σ y = sv m) (ha : appI l m = some r)
    (hL' : ∀ p q c, L.set i (.own 1 e (.slice p q c) (encL r)) = L' p q c) (h : ∀ p q c w', St A w' F (L' p q c) → WL P n ops rest K (upd σ d (.slice p q c)) w') :
    WL P n ops (⟨some d, .call ⟨.builtin .append, #[x, y], #[t, t2]⟩, ty, pos, after, none⟩ :: rest) K σ w := by
  obtain ⟨h1, rfl⟩ := appI_spec ha
  exact WL.appendSrc ht he hs hL hd hx hy (Src.string ht2) (enc_one m) (enc_len l) (enc_len m) h1 (fun p q c => by rw [← hL' p q c]; simp [encL]) h
section
variable {T : Type} {k : IntKind} [GI T k]
theorem zero_cells (z : T) (m : Nat) : (encL (List.replicate m z)).toArray = Builtin.zeroCells (Value.cells (iv z)) m := by
  apply Array.ext
  · simp [encL, Builtin.zeroCells, iv, Value.cells]
  · intro i h1 h2
    simp [encL, Builtin.zeroCells, iv, Value.cells, Nat.mod_one]
theorem WL.appZ {x y : Operand} {t t2 e : TypeId} {k2 : IntKind} {i : Nat} {vx : Value} {l m r : List T} {a : Int} {z : T} {L' : Option Addr → Nat → Nat → List Mob} (ht : P.underlying t = some (.slice e)) (ht2 : P.underlying t2 = some (.int k2)) (he : ElemOk P e 1)
    (hz : ∃ i, P.info? e = some i ∧ i.zero = some (iv z))
    (hs : St A w F L) (hL : L[i]? = some (.own 1 e vx (encL l))) (hd : Nat.blt d n = true) (hx : ev σ x = vx) (hy : ev σ y = iv a) (hm : Go.Lv.mkI a z = some m) (ha : appI l m = some r)
    (hL' : ∀ p q c, L.set i (.own 1 e (.slice p q c) (encL r)) = L' p q c) (h : ∀ p q c w', St A w' F (L' p q c) → WL P n ops rest K (upd σ d (.slice p q c)) w') :
    WL P n ops (⟨some d, .call ⟨.builtin .append, #[x, y], #[t, t2]⟩, ty, pos, after, none⟩ :: rest) K σ w := by
  obtain ⟨h1, rfl⟩ := appI_spec ha
  obtain ⟨h2, h3, rfl⟩ := mkI_spec hm
  obtain ⟨q0, rfl⟩ : ∃ q0 : Nat, a = (q0 : Int) := ⟨_, h2⟩
  simp only [Int.toNat_natCast] at *
  clear h2
  obtain ⟨i0, hi0, hz0⟩ := hz
  rw [List.length_replicate] at h1
  obtain ⟨v', w', hr, hs'⟩ := append_zeros (P := P) (ty := ty) (x := x) (y := y) (ly := q0) (ys := encL (List.replicate q0 z)) ht he hs hL ⟨_, ht2⟩ (fun i z' hi hz' => by
    rw [hi0] at hi; cases hi; rw [hz0] at hz'; cases hz'; exact zero_cells z _) (enc_one _) (enc_len l) (by simp [encL]) h1
  obtain ⟨p, q, c, rfl⟩ : ∃ p l c, v' = .slice p l c := by
    have hlt : i < L.length := (List.getElem?_eq_some_iff.1 hL).1
    obtain ⟨o, ho⟩ := Mobs.mem (A := A) hs'.mobs (show (L.set i (.own 1 e v' (encL l ++ encL (List.replicate q0 z))))[i]? = some (.own 1 e v' (encL l ++ encL (List.replicate q0 z))) by simp [hlt])
    obtain ⟨p, l, c, h, _⟩ := ho; exact ⟨p, l, c, h⟩
  have e1 : encL l ++ encL (List.replicate q0 z) = encL (l ++ List.replicate q0 z) := by simp [encL]
  rw [e1] at hs'
  refine .val rfl rfl hd (v := .slice p q c) (w' := w') ?_ (h p q c w' (hL' p q c ▸ hs'))
  have hy' : ev σ y = .int .i64 (q0 : Int) := hy
  simp [execOp, resolve, invoke, builtin, hx, hy', hr]
end
end Go.Lv

set_option linter.unusedVariables false
set_option linter.unusedSimpArgs false
namespace Go.Lv
/-! ### the plain operations on Lean's own types -/
theorem wrap_min {x n : Nat} : min x n ≤ n := Nat.min_le_right _ _

section
variable (a b : UInt8)
theorem toZ_u8 : GI.toZ a = (a.toNat : Int) := rfl
theorem ofZ_u8 (n : Int) : (GI.ofZ n : UInt8) = UInt8.ofNat (n % 256).toNat := rfl
theorem ofZ_u8_nat (n : Nat) : (GI.ofZ (n : Int) : UInt8) = UInt8.ofNat n := by
  rw [ofZ_u8]; apply UInt8.toNat_inj.1; simp only [UInt8.toNat_ofNat']; omega
theorem gadd_u8 : gadd a b = a + b := by
  simp only [gadd, toZ_u8, ← Int.natCast_add, ofZ_u8_nat]; apply UInt8.toNat_inj.1; simp
theorem gsub_u8 : gsub a b = a - b := by
  simp only [gsub, toZ_u8, ofZ_u8]; apply UInt8.toNat_inj.1
  have h1 := a.toNat_lt; have h2 := b.toNat_lt
  simp only [UInt8.toNat_ofNat', UInt8.toNat_sub]; omega
theorem gmul_u8 : gmul a b = a * b := by
  simp only [gmul, toZ_u8, ← Int.natCast_mul, ofZ_u8_nat]; apply UInt8.toNat_inj.1; simp
theorem gquo_u8 : gquo a b = a / b := by
  simp only [gquo, toZ_u8]
  rw [← Int.ofNat_tdiv, ofZ_u8_nat]; apply UInt8.toNat_inj.1
  rw [UInt8.toNat_ofNat', UInt8.toNat_div]
  exact Nat.mod_eq_of_lt (Nat.lt_of_le_of_lt (Nat.div_le_self _ _) a.toNat_lt)
theorem grem_u8 : grem a b = a % b := by
  simp only [grem, toZ_u8]
  rw [← Int.ofNat_tmod, ofZ_u8_nat]; apply UInt8.toNat_inj.1
  rw [UInt8.toNat_ofNat', UInt8.toNat_mod]
  exact Nat.mod_eq_of_lt (Nat.lt_of_le_of_lt (Nat.mod_le _ _) a.toNat_lt)
theorem bv_u8 : BitVec.ofInt (IntKind.bits .u8) (GI.toZ a) = a.toBitVec := by
  rw [toZ_u8]; apply BitVec.eq_of_toNat_eq; have := a.toNat_lt
  simp only [IntKind.bits, BitVec.toNat_ofInt, UInt8.toNat_toBitVec]; omega
theorem gand_u8 : gand a b = a &&& b := by
  simp only [gand, bv_u8, ofZ_u8_nat]; apply UInt8.toNat_inj.1; rw [UInt8.toNat_ofNat', UInt8.toNat_and]
  exact (Nat.mod_eq_of_lt (a.toBitVec &&& b.toBitVec).isLt).trans (BitVec.toNat_and _ _)
theorem gor_u8 : gor a b = a ||| b := by
  simp only [gor, bv_u8, ofZ_u8_nat]; apply UInt8.toNat_inj.1; rw [UInt8.toNat_ofNat', UInt8.toNat_or]
  exact (Nat.mod_eq_of_lt (a.toBitVec ||| b.toBitVec).isLt).trans (BitVec.toNat_or _ _)
theorem gxor_u8 : gxor a b = a ^^^ b := by
  simp only [gxor, bv_u8, ofZ_u8_nat]; apply UInt8.toNat_inj.1; rw [UInt8.toNat_ofNat', UInt8.toNat_xor]
  exact (Nat.mod_eq_of_lt (a.toBitVec ^^^ b.toBitVec).isLt).trans (BitVec.toNat_xor _ _)
theorem gshl_u8 (n : Nat) : (gshl a n).toNat = a.toNat * 2 ^ n % 256 := by
  have h : (a.toNat : Int) * 2 ^ min n (IntKind.bits .u8) = ((a.toNat * 2 ^ min n 8 : Nat) : Int) := by simp [IntKind.bits]
  simp only [gshl, toZ_u8, h, ofZ_u8_nat, UInt8.toNat_ofNat']
  show a.toNat * 2 ^ min n 8 % 256 = _
  rcases Nat.le_total n 8 with h | h
  · rw [Nat.min_eq_left h]
  · rw [Nat.min_eq_right h]
    obtain ⟨d, rfl⟩ := Nat.exists_eq_add_of_le h
    rw [Nat.pow_add, ← Nat.mul_assoc, Nat.mul_right_comm, Nat.mul_mod_left, Nat.mul_mod_left]
theorem gshr_u8 (n : Nat) : (gshr a n).toNat = a.toNat / 2 ^ n := by
  have h : (a.toNat : Int).fdiv (2 ^ min n (IntKind.bits .u8)) = ((a.toNat / 2 ^ min n 8 : Nat) : Int) := by
    rw [Int.fdiv_eq_ediv_of_nonneg _ (Int.le_of_lt (Int.pow_pos (by decide)))]; simp [IntKind.bits]
  have hlt := a.toNat_lt
  have hle := Nat.div_le_self a.toNat (2 ^ min n 8)
  simp only [gshr, toZ_u8, h, ofZ_u8_nat, UInt8.toNat_ofNat']
  show a.toNat / 2 ^ min n 8 % 256 = _
  rw [Nat.mod_eq_of_lt (by omega)]
  rcases Nat.le_total n 8 with h | h
  · rw [Nat.min_eq_left h]
  · rw [Nat.min_eq_right h]
    rw [Nat.div_eq_of_lt (by omega), Nat.div_eq_of_lt]
    exact Nat.lt_of_lt_of_le hlt (Nat.pow_le_pow_right (by decide) h)
theorem geq_u8 : geq a b = (a == b) := by
  rw [Bool.eq_iff_iff]; simp [geq, toZ_u8, Int.natCast_inj, UInt8.toNat_inj]
theorem gne_u8 : gne a b = (a != b) := by
  rw [Bool.eq_iff_iff]; simp [gne, toZ_u8, Int.natCast_inj, UInt8.toNat_inj]
theorem glt_u8 : glt a b = decide (a.toNat < b.toNat) := by simp [glt, toZ_u8]
theorem gle_u8 : gle a b = decide (a.toNat ≤ b.toNat) := by simp [gle, toZ_u8]
theorem ggt_u8 : ggt a b = decide (b.toNat < a.toNat) := by simp [ggt, toZ_u8]
theorem gge_u8 : gge a b = decide (b.toNat ≤ a.toNat) := by simp [gge, toZ_u8]
theorem gconv_u8 : (gconv a : Int) = wrap64 (a.toNat : Int) := rfl
theorem gconv_i_u8 (n : Int) : (gconv n : UInt8) = UInt8.ofNat (n % 256).toNat := rfl
end

section
variable (a b : UInt32)
theorem toZ_u32 : GI.toZ a = (a.toNat : Int) := rfl
theorem ofZ_u32 (n : Int) : (GI.ofZ n : UInt32) = UInt32.ofNat (n % 4294967296).toNat := rfl
theorem ofZ_u32_nat (n : Nat) : (GI.ofZ (n : Int) : UInt32) = UInt32.ofNat n := by
  rw [ofZ_u32]; apply UInt32.toNat_inj.1; simp only [UInt32.toNat_ofNat']; omega
theorem gadd_u32 : gadd a b = a + b := by
  simp only [gadd, toZ_u32, ← Int.natCast_add, ofZ_u32_nat]; apply UInt32.toNat_inj.1; simp
theorem gsub_u32 : gsub a b = a - b := by
  simp only [gsub, toZ_u32, ofZ_u32]; apply UInt32.toNat_inj.1
  have h1 := a.toNat_lt; have h2 := b.toNat_lt
  simp only [UInt32.toNat_ofNat', UInt32.toNat_sub]; omega
theorem gmul_u32 : gmul a b = a * b := by
  simp only [gmul, toZ_u32, ← Int.natCast_mul, ofZ_u32_nat]; apply UInt32.toNat_inj.1; simp
theorem gquo_u32 : gquo a b = a / b := by
  simp only [gquo, toZ_u32]
  rw [← Int.ofNat_tdiv, ofZ_u32_nat]; apply UInt32.toNat_inj.1
  rw [UInt32.toNat_ofNat', UInt32.toNat_div]
  exact Nat.mod_eq_of_lt (Nat.lt_of_le_of_lt (Nat.div_le_self _ _) a.toNat_lt)
theorem grem_u32 : grem a b = a % b := by
  simp only [grem, toZ_u32]
  rw [← Int.ofNat_tmod, ofZ_u32_nat]; apply UInt32.toNat_inj.1
  rw [UInt32.toNat_ofNat', UInt32.toNat_mod]
  exact Nat.mod_eq_of_lt (Nat.lt_of_le_of_lt (Nat.mod_le _ _) a.toNat_lt)
theorem bv_u32 : BitVec.ofInt (IntKind.bits .u32) (GI.toZ a) = a.toBitVec := by
  rw [toZ_u32]; apply BitVec.eq_of_toNat_eq; have := a.toNat_lt
  simp only [IntKind.bits, BitVec.toNat_ofInt, UInt32.toNat_toBitVec]; omega
theorem gand_u32 : gand a b = a &&& b := by
  simp only [gand, bv_u32, ofZ_u32_nat]; apply UInt32.toNat_inj.1; rw [UInt32.toNat_ofNat', UInt32.toNat_and]
  exact (Nat.mod_eq_of_lt (a.toBitVec &&& b.toBitVec).isLt).trans (BitVec.toNat_and _ _)
theorem gor_u32 : gor a b = a ||| b := by
  simp only [gor, bv_u32, ofZ_u32_nat]; apply UInt32.toNat_inj.1; rw [UInt32.toNat_ofNat', UInt32.toNat_or]
  exact (Nat.mod_eq_of_lt (a.toBitVec ||| b.toBitVec).isLt).trans (BitVec.toNat_or _ _)
theorem gxor_u32 : gxor a b = a ^^^ b := by
  simp only [gxor, bv_u32, ofZ_u32_nat]; apply UInt32.toNat_inj.1; rw [UInt32.toNat_ofNat', UInt32.toNat_xor]
  exact (Nat.mod_eq_of_lt (a.toBitVec ^^^ b.toBitVec).isLt).trans (BitVec.toNat_xor _ _)
theorem gshl_u32 (n : Nat) : (gshl a n).toNat = a.toNat * 2 ^ n % 4294967296 := by
  have h : (a.toNat : Int) * 2 ^ min n (IntKind.bits .u32) = ((a.toNat * 2 ^ min n 32 : Nat) : Int) := by simp [IntKind.bits]
  simp only [gshl, toZ_u32, h, ofZ_u32_nat, UInt32.toNat_ofNat']
  show a.toNat * 2 ^ min n 32 % 4294967296 = _
  rcases Nat.le_total n 32 with h | h
  · rw [Nat.min_eq_left h]
  · rw [Nat.min_eq_right h]
    obtain ⟨d, rfl⟩ := Nat.exists_eq_add_of_le h
    rw [Nat.pow_add, ← Nat.mul_assoc, Nat.mul_right_comm, Nat.mul_mod_left, Nat.mul_mod_left]
theorem gshr_u32 (n : Nat) : (gshr a n).toNat = a.toNat / 2 ^ n := by
  have h : (a.toNat : Int).fdiv (2 ^ min n (IntKind.bits .u32)) = ((a.toNat / 2 ^ min n 32 : Nat) : Int) := by
    rw [Int.fdiv_eq_ediv_of_nonneg _ (Int.le_of_lt (Int.pow_pos (by decide)))]; simp [IntKind.bits]
  have hlt := a.toNat_lt
  have hle := Nat.div_le_self a.toNat (2 ^ min n 32)
  simp only [gshr, toZ_u32, h, ofZ_u32_nat, UInt32.toNat_ofNat']
  show a.toNat / 2 ^ min n 32 % 4294967296 = _
  rw [Nat.mod_eq_of_lt (by omega)]
  rcases Nat.le_total n 32 with h | h
  · rw [Nat.min_eq_left h]
  · rw [Nat.min_eq_right h]
    rw [Nat.div_eq_of_lt (by omega), Nat.div_eq_of_lt]
    exact Nat.lt_of_lt_of_le hlt (Nat.pow_le_pow_right (by decide) h)
theorem geq_u32 : geq a b = (a == b) := by
  rw [Bool.eq_iff_iff]; simp [geq, toZ_u32, Int.natCast_inj, UInt32.toNat_inj]
theorem gne_u32 : gne a b = (a != b) := by
  rw [Bool.eq_iff_iff]; simp [gne, toZ_u32, Int.natCast_inj, UInt32.toNat_inj]
theorem glt_u32 : glt a b = decide (a.toNat < b.toNat) := by simp [glt, toZ_u32]
theorem gle_u32 : gle a b = decide (a.toNat ≤ b.toNat) := by simp [gle, toZ_u32]
theorem ggt_u32 : ggt a b = decide (b.toNat < a.toNat) := by simp [ggt, toZ_u32]
theorem gge_u32 : gge a b = decide (b.toNat ≤ a.toNat) := by simp [gge, toZ_u32]
theorem gconv_u32 : (gconv a : Int) = wrap64 (a.toNat : Int) := rfl
theorem gconv_i_u32 (n : Int) : (gconv n : UInt32) = UInt32.ofNat (n % 4294967296).toNat := rfl
end

section
variable (a b : UInt64)
theorem toZ_u64 : GI.toZ a = (a.toNat : Int) := rfl
theorem ofZ_u64 (n : Int) : (GI.ofZ n : UInt64) = UInt64.ofNat (n % 18446744073709551616).toNat := rfl
theorem ofZ_u64_nat (n : Nat) : (GI.ofZ (n : Int) : UInt64) = UInt64.ofNat n := by
  rw [ofZ_u64]; apply UInt64.toNat_inj.1; simp only [UInt64.toNat_ofNat']; omega
theorem gadd_u64 : gadd a b = a + b := by
  simp only [gadd, toZ_u64, ← Int.natCast_add, ofZ_u64_nat]; apply UInt64.toNat_inj.1; simp
theorem gsub_u64 : gsub a b = a - b := by
  simp only [gsub, toZ_u64, ofZ_u64]; apply UInt64.toNat_inj.1
  have h1 := a.toNat_lt; have h2 := b.toNat_lt
  simp only [UInt64.toNat_ofNat', UInt64.toNat_sub]; omega
theorem gmul_u64 : gmul a b = a * b := by
  simp only [gmul, toZ_u64, ← Int.natCast_mul, ofZ_u64_nat]; apply UInt64.toNat_inj.1; simp
theorem gquo_u64 : gquo a b = a / b := by
  simp only [gquo, toZ_u64]
  rw [← Int.ofNat_tdiv, ofZ_u64_nat]; apply UInt64.toNat_inj.1
  rw [UInt64.toNat_ofNat', UInt64.toNat_div]
  exact Nat.mod_eq_of_lt (Nat.lt_of_le_of_lt (Nat.div_le_self _ _) a.toNat_lt)
theorem grem_u64 : grem a b = a % b := by
  simp only [grem, toZ_u64]
  rw [← Int.ofNat_tmod, ofZ_u64_nat]; apply UInt64.toNat_inj.1
  rw [UInt64.toNat_ofNat', UInt64.toNat_mod]
  exact Nat.mod_eq_of_lt (Nat.lt_of_le_of_lt (Nat.mod_le _ _) a.toNat_lt)
theorem bv_u64 : BitVec.ofInt (IntKind.bits .u64) (GI.toZ a) = a.toBitVec := by
  rw [toZ_u64]; apply BitVec.eq_of_toNat_eq; have := a.toNat_lt
  simp only [IntKind.bits, BitVec.toNat_ofInt, UInt64.toNat_toBitVec]; omega
theorem gand_u64 : gand a b = a &&& b := by
  simp only [gand, bv_u64, ofZ_u64_nat]; apply UInt64.toNat_inj.1; rw [UInt64.toNat_ofNat', UInt64.toNat_and]
  exact (Nat.mod_eq_of_lt (a.toBitVec &&& b.toBitVec).isLt).trans (BitVec.toNat_and _ _)
theorem gor_u64 : gor a b = a ||| b := by
  simp only [gor, bv_u64, ofZ_u64_nat]; apply UInt64.toNat_inj.1; rw [UInt64.toNat_ofNat', UInt64.toNat_or]
  exact (Nat.mod_eq_of_lt (a.toBitVec ||| b.toBitVec).isLt).trans (BitVec.toNat_or _ _)
theorem gxor_u64 : gxor a b = a ^^^ b := by
  simp only [gxor, bv_u64, ofZ_u64_nat]; apply UInt64.toNat_inj.1; rw [UInt64.toNat_ofNat', UInt64.toNat_xor]
  exact (Nat.mod_eq_of_lt (a.toBitVec ^^^ b.toBitVec).isLt).trans (BitVec.toNat_xor _ _)
theorem gshl_u64 (n : Nat) : (gshl a n).toNat = a.toNat * 2 ^ n % 18446744073709551616 := by
  have h : (a.toNat : Int) * 2 ^ min n (IntKind.bits .u64) = ((a.toNat * 2 ^ min n 64 : Nat) : Int) := by simp [IntKind.bits]
  simp only [gshl, toZ_u64, h, ofZ_u64_nat, UInt64.toNat_ofNat']
  show a.toNat * 2 ^ min n 64 % 18446744073709551616 = _
  rcases Nat.le_total n 64 with h | h
  · rw [Nat.min_eq_left h]
  · rw [Nat.min_eq_right h]
    obtain ⟨d, rfl⟩ := Nat.exists_eq_add_of_le h
    rw [Nat.pow_add, ← Nat.mul_assoc, Nat.mul_right_comm, Nat.mul_mod_left, Nat.mul_mod_left]
theorem gshr_u64 (n : Nat) : (gshr a n).toNat = a.toNat / 2 ^ n := by
  have h : (a.toNat : Int).fdiv (2 ^ min n (IntKind.bits .u64)) = ((a.toNat / 2 ^ min n 64 : Nat) : Int) := by
    rw [Int.fdiv_eq_ediv_of_nonneg _ (Int.le_of_lt (Int.pow_pos (by decide)))]; simp [IntKind.bits]
  have hlt := a.toNat_lt
  have hle := Nat.div_le_self a.toNat (2 ^ min n 64)
  simp only [gshr, toZ_u64, h, ofZ_u64_nat, UInt64.toNat_ofNat']
  show a.toNat / 2 ^ min n 64 % 18446744073709551616 = _
  rw [Nat.mod_eq_of_lt (by omega)]
  rcases Nat.le_total n 64 with h | h
  · rw [Nat.min_eq_left h]
  · rw [Nat.min_eq_right h]
    rw [Nat.div_eq_of_lt (by omega), Nat.div_eq_of_lt]
    exact Nat.lt_of_lt_of_le hlt (Nat.pow_le_pow_right (by decide) h)
theorem geq_u64 : geq a b = (a == b) := by
  rw [Bool.eq_iff_iff]; simp [geq, toZ_u64, Int.natCast_inj, UInt64.toNat_inj]
theorem gne_u64 : gne a b = (a != b) := by
  rw [Bool.eq_iff_iff]; simp [gne, toZ_u64, Int.natCast_inj, UInt64.toNat_inj]
theorem glt_u64 : glt a b = decide (a.toNat < b.toNat) := by simp [glt, toZ_u64]
theorem gle_u64 : gle a b = decide (a.toNat ≤ b.toNat) := by simp [gle, toZ_u64]
theorem ggt_u64 : ggt a b = decide (b.toNat < a.toNat) := by simp [ggt, toZ_u64]
theorem gge_u64 : gge a b = decide (b.toNat ≤ a.toNat) := by simp [gge, toZ_u64]
theorem gconv_u64 : (gconv a : Int) = wrap64 (a.toNat : Int) := rfl
theorem gconv_i_u64 (n : Int) : (gconv n : UInt64) = UInt64.ofNat (n % 18446744073709551616).toNat := rfl
end

section
variable (a b : Int)
theorem gadd_i : gadd a b = wrap64 (a + b) := rfl
theorem gsub_i : gsub a b = wrap64 (a - b) := rfl
theorem gmul_i : gmul a b = wrap64 (a * b) := rfl
theorem gquo_i : gquo a b = wrap64 (a.tdiv b) := rfl
theorem gneg_i : gneg a = wrap64 (0 - a) := rfl
theorem geq_i : geq a b = (a == b) := rfl
theorem gne_i : gne a b = (a != b) := rfl
theorem glt_i : glt a b = decide (a < b) := rfl
theorem gle_i : gle a b = decide (a ≤ b) := rfl
theorem ggt_i : ggt a b = decide (a > b) := rfl
theorem gge_i : gge a b = decide (a ≥ b) := rfl
theorem gmin_i : gmin a b = min a b := by unfold gmin; show (if b < a then b else a) = _; omega
theorem gmax_i : gmax a b = max a b := by unfold gmax; show (if b > a then b else a) = _; omega
theorem gconv_ii : (gconv a : Int) = wrap64 a := rfl
end
end Go.Lv

set_option linter.unusedVariables false
set_option linter.unusedSimpArgs false
namespace Go.Lv
open Go.RowKit
/-! ### from what a row tells to what a walk asks, and back -/
theorem Fr.below {w w' : World} {F : List Fact} {L : List Mob} (h : Fr w w' F L) : Below w.heap.size w w' :=
  ⟨h.keep.gr.os, h.keep.gr.tape, h.keep.gr.output, h.keep.gr.le, fun b hb => h.keep.same b hb⟩
theorem wrap_wf {k : IntKind} {n : Int} (h : (Lit.int k n).wf = true) : k.wrap n = n := by
  simp only [Lit.wf, Bool.and_eq_true, decide_eq_true_eq] at h
  obtain ⟨h1, h2⟩ := h
  cases k <;> simp only [IntKind.min, IntKind.max, IntKind.bits, IntKind.signed, IntKind.wrap] at * <;> (try simp at *) <;> (try split) <;> omega
section
variable {T : Type} {k : IntKind} [GI T k]
/-- A number that fits is the value of one of the type. -/
theorem wf_ofZ {n : Int} (h : (Lit.int k n).wf = true) : (.int k n : Value) = iv (GI.ofZ n : T) := by
  rw [← ofZ_val, wrap_wf h]
theorem row_rd {w : World} {a : Option Addr} {len cap M : Nat} {zs : List Int}
    (h : (a = none ∧ len = 0 ∧ cap = 0 ∧ zs = []) ∨ ∃ x, a = some x ∧ len ≤ cap ∧ cap ≤ M ∧ zs.length = cap ∧ (∀ i, i < zs.length → w.cell? (x.add i) = some (.int k (zs.getD i 0))) ∧ ∀ n ∈ zs, (Lit.int k n).wf = true) :
    ∃ l : List T, Rd (fun _ => True) w 1 (.slice a len cap) (encL l) := by
  rcases h with ⟨rfl, rfl, rfl, rfl⟩ | ⟨x, rfl, hl, hm, hz, hcell, hwz⟩
  · exact ⟨[], Rd.nil⟩
  · refine ⟨(zs.take len).map GI.ofZ, some x, len, cap, rfl, by simp [encL]; omega, hl, (fun h => by cases h), fun hc => ?_⟩
    obtain ⟨b, off, spot⟩ := x
    have hc0 := hcell 0 (by omega)
    have hspot : spot = none := by simpa [Addr.add] using World.cell?_spot hc0
    subst hspot
    simp only [add_off] at hcell
    have hb : ∃ arr T fr, w.heap[b]? = some (.cells arr T fr) := by
      have := hcell 0 (by omega)
      unfold World.cell? at this
      split at this
      · rename_i arr T fr hh
        exact ⟨arr, T, fr, by simpa using hh⟩
      · cases this
    obtain ⟨arr, E, fr, hb⟩ := hb
    refine ⟨b, off, arr, E, fr, rfl, trivial, hb, ?_, fun i hi => ?_⟩
    · have := hcell (cap - 1) (by omega)
      rw [cell_of hb] at this
      have := (Array.getElem?_eq_some_iff.1 this).1
      omega
    · have h1 := hcell i (by omega)
      rw [cell_of hb] at h1
      rw [h1]
      have hlt : i < len := by omega
      have hzi : i < zs.length := by omega
      have hmem : zs.getD i 0 ∈ zs := by
        rw [List.getD_eq_getElem?_getD, List.getElem?_eq_getElem hzi]; exact List.getElem_mem hzi
      rw [wf_ofZ (T := T) (hwz _ hmem)]
      simp only [encL, List.map_map, List.getElem?_map, List.getElem?_take]
      rw [if_pos hlt, List.getElem?_eq_getElem hzi]
      simp [List.getD_eq_getElem?_getD, List.getElem?_eq_getElem hzi]
end
end Go.Lv
