/- Rules for walks of code over an environment of slots. -/
import Derived.Tactics
import Derived.OrdersHeld
import Derived.Below
namespace Go.Lv

abbrev Env := Nat → Value
/-- The environment with one slot set. -/
def upd (σ : Env) (d : Nat) (v : Value) : Env := fun t => match Nat.beq t d with | true => v | false => σ t
def ev (σ : Env) : Operand → Value
  | .tmp t => σ t
  | .const v => v
  | .global g => .pointer (some ⟨g, 0, none⟩)
  | .func f => .func (.func f) #[] #[]

structure Fits (n : Nat) (a : Act) (σ : Env) : Prop where
  size : a.tmps.size = n
  defers : a.defers = []
  get : ∀ t, a.tmps.getD t undef = σ t

theorem Fits.eval {n : Nat} {a : Act} {σ : Env} (h : Fits n a σ) : a.eval = ev σ := by
  funext x; cases x <;> simp only [Act.eval, ev, h.get]

theorem upd_same (σ : Env) (d : Nat) (v : Value) : upd σ d v d = v := by simp [upd]
theorem upd_ne (σ : Env) {d t : Nat} (v : Value) (h : t ≠ d) : upd σ d v t = σ t := by
  unfold upd
  have : Nat.beq t d = false := by
    cases hb : Nat.beq t d with
    | false => rfl
    | true => exact absurd (Nat.eq_of_beq_eq_true hb) h
  rw [this]

theorem Fits.put {n : Nat} {a : Act} {σ : Env} (h : Fits n a σ) {d : Nat} (hd : Nat.blt d n = true) (v : Value) : Fits n (a.put (some d) v) (upd σ d v) := by
  have hd' : d < n := by simpa [Nat.blt_eq] using hd
  refine ⟨by simp [Act.put, h.size], h.defers, fun t => ?_⟩
  by_cases ht : t = d
  · subst ht
    rw [upd_same]
    simp [Act.put, Array.getD, h.size, hd']
  · rw [upd_ne _ _ ht, ← h.get t]
    simp [Act.put, Array.getD_eq_getD_getElem?, Array.getElem?_setIfInBounds_ne (Ne.symm ht)]
theorem Fits.put_none {n : Nat} {a : Act} {σ : Env} (h : Fits n a σ) (v : Value) : Fits n (a.put none v) σ := h

variable {P : Program} {n : Nat}

/-- A piece of code, from an environment and a world. -/
def W (P : Program) (n : Nat) (c : Code) (Q : Exit → Env → World → Prop) (σ : Env) (w : World) : Prop :=
  ∀ a, Fits n a σ → c.wp P (fun e a' w' => ∃ σ', Fits n a' σ' ∧ Q e σ' w') a w

def Then (K : Env → World → Prop) (Q : Exit → Env → World → Prop) : Exit → Env → World → Prop
  | .normal, σ, w => K σ w
  | e, σ, w => Q e σ w
def InBlock (id : Nat) (Q : Exit → Env → World → Prop) : Exit → Env → World → Prop
  | .exit id', σ, w => if id' = id then Q .normal σ w else Q (.exit id') σ w
  | e, σ, w => Q e σ w

variable {Q : Exit → Env → World → Prop} {σ : Env} {w : World}

theorem W.mono {c : Code} {Q' : Exit → Env → World → Prop} (h : W P n c Q σ w) (hq : ∀ e σ w, Q e σ w → Q' e σ w) : W P n c Q' σ w :=
  fun a ha => wp_mono (h a ha) fun _ _ _ ⟨σ', hf, hh⟩ => ⟨σ', hf, hq _ _ _ hh⟩
theorem W.seq {x y : Code} (h : W P n x (Then (W P n y Q) Q) σ w) : W P n (.seq x y) Q σ w := by
  intro a ha
  refine wp_seq (wp_mono (h a ha) ?_)
  rintro e a' w' ⟨σ', hf, hh⟩
  cases e <;> first | exact hh a' hf | exact ⟨σ', hf, hh⟩
/-- Sequence with a cut in the middle. -/
theorem W.seqJ {x y : Code} (J : Env → World → Prop) (h : W P n x (Then J Q) σ w) (h2 : ∀ σ w, J σ w → W P n y Q σ w) : W P n (.seq x y) Q σ w := by
  refine W.seq (W.mono h ?_)
  intro e σ' w' hh
  cases e <;> first | exact h2 _ _ hh | exact hh
theorem W.skip (h : Q .normal σ w) : W P n .skip Q σ w := fun _ ha => wp_skip ⟨σ, ha, h⟩
theorem W.ret (h : Q .ret σ w) : W P n .ret Q σ w := fun _ ha => wp_ret ⟨σ, ha, h⟩
theorem W.exit {id : Nat} (h : Q (.exit id) σ w) : W P n (.exit id) Q σ w := fun _ ha => wp_exit ⟨σ, ha, h⟩
theorem W.block {id : Nat} {c : Code} (h : W P n c (InBlock id Q) σ w) : W P n (.block id c) Q σ w := by
  intro a ha
  refine wp_block (wp_mono (h a ha) ?_)
  rintro e a' w' ⟨σ', hf, hh⟩
  cases e with
  | exit id' =>
    simp only [InBlock] at hh
    simp only [Exit.inBlock]
    split
    · rename_i he; simp only [he, if_true] at hh; exact ⟨σ', hf, hh⟩
    · rename_i he; simp only [he, if_false] at hh; exact ⟨σ', hf, hh⟩
  | _ => exact ⟨σ', hf, hh⟩
theorem W.cond {c : Operand} {x y : Code} {t : Bool} (hc : ev σ c = .bool t) (ht : t = true → W P n x Q σ w) (hf : t = false → W P n y Q σ w) :
    W P n (.cond c x y) Q σ w := by
  intro a ha
  exact wp_cond_split (by rw [ha.eval]; exact hc) (fun h => ht h a ha) (fun h => hf h a ha)
theorem W.loop {c : Code} (I : Nat → Env → World → Prop) (m : Nat) (h0 : I m σ w)
    (round : ∀ k σ w, I k σ w → W P n c (Then (fun σ' w' => ∃ j, j < k ∧ I j σ' w') Q) σ w) : W P n (.loop c) Q σ w := by
  intro a ha b k cs
  have key : ∀ m σ w a, I m σ w → Fits n a σ →
      ∃ e a' w', (∃ σ', Fits n a' σ' ∧ Q e σ' w') ∧ Arrives P (lone (b.at a (.code c :: .inLoop c :: k)) cs w) b k cs e a' w' := by
    intro m
    induction m using Nat.strongRecOn with
    | _ m ih =>
      intro σ w a hI ha
      obtain ⟨e, a₁, w₁, ⟨σ₁, hf, hq⟩, harr⟩ := round m σ w hI a ha b (.inLoop c :: k) cs
      cases e with
      | normal =>
        obtain ⟨j, hlt, hI₁⟩ := hq
        obtain ⟨e₂, a₂, w₂, hq₂, harr₂⟩ := ih j hlt σ₁ w₁ a₁ hI₁ hf
        exact ⟨e₂, a₂, w₂, hq₂, .of_steps (Steps.trans harr (.one step_inLoop)) harr₂⟩
      | exit id => exact ⟨_, a₁, w₁, ⟨σ₁, hf, hq⟩, .pass (x := .inLoop c) rfl (fun _ _ => .inl (by simp)) harr⟩
      | goto l => exact ⟨_, a₁, w₁, ⟨σ₁, hf, hq⟩, .pass (x := .inLoop c) rfl (fun _ _ => .inl (by simp)) harr⟩
      | ret => exact ⟨_, a₁, w₁, ⟨σ₁, hf, hq⟩, .pass (x := .inLoop c) rfl (fun _ _ => .inl (by simp)) harr⟩
      | panic ch => exact ⟨_, a₁, w₁, ⟨σ₁, hf, hq⟩, .pass (x := .inLoop c) rfl (fun _ _ => .inl (by simp)) harr⟩
      | outgrown => exact ⟨_, a₁, w₁, ⟨σ₁, hf, hq⟩, .pass (x := .inLoop c) rfl (fun _ _ => .inl (by simp)) harr⟩
  obtain ⟨e, a', w', hq, harr⟩ := key m σ w a h0 ha
  exact ⟨e, a', w', hq, .of_steps (.one step_loop) harr⟩


/-! ### lists of operations -/
theorem Oper.wp_cut {o : Oper} {a : Act} {w : World} {next next' : Act → World → Prop} {Z : Act → World → Prop} {R : Exit → Act → World → Prop}
    (h : o.wp P a w next (fun e a w => e = Exit.normal ∧ Z a w)) (hn : ∀ a w, next a w → next' a w) : o.wp P a w next' R := by
  unfold Oper.wp at *
  generalize (execOp a.eval o).run P w = r at *
  cases r with
  | ok x w' =>
    cases x <;> simp only [Oper.upon] at h ⊢ <;> first
      | exact hn _ _ h
      | exact Rows.mono h fun _ _ hh => hn _ _ hh
      | skip
    refine Calls.mono h ?_
    intro e w'' hh
    cases e with
    | returned v => exact hn _ _ hh
    | panicked c => exact absurd hh.1 (by simp)
    | outgrown => obtain ⟨_, _, hh, _⟩ := hh; exact absurd hh (by simp)
  | halt x w' =>
    cases x <;> simp only [Oper.upon] at h ⊢
    exact absurd h.1 (by simp)

theorem wpList_cut {ops : Array Oper} {Z : Act → World → Prop} {R : Exit → Act → World → Prop} {l : List Oper} (h2 : ∀ a w, Z a w → wpList P ops R l a w) :
    ∀ (l1 : List Oper) (a : Act) (w : World), wpList P ops (fun e a w => e = Exit.normal ∧ Z a w) l1 a w → wpList P ops R (l1 ++ l) a w := by
  intro l1
  induction l1 with
  | nil => intro a w h; exact h2 _ _ h.2
  | cons o l1 ih =>
    intro a w h
    simp only [wpList, List.cons_append] at h ⊢
    split
    · rename_i hw
      rw [if_pos hw] at h
      rcases h with h | ⟨_, _, _, hh, _⟩
      · exact .inl (Oper.wp_cut h ih)
      · exact absurd hh (by simp)
    · rename_i hw
      rw [if_neg hw] at h
      exact ih _ _ h

/-- A list of operations that does not panic. -/
def WL (P : Program) (n : Nat) (ops : Array Oper) (l : List Oper) (K : Env → World → Prop) (σ : Env) (w : World) : Prop :=
  ∀ a, Fits n a σ → wpList P ops (fun e a' w' => e = Exit.normal ∧ ∃ σ', Fits n a' σ' ∧ K σ' w') l a w

theorem W.region {id : Nat} {l : List Oper} (h : WL P n l.toArray l (fun σ' w' => Q .normal σ' w') σ w) : W P n (.region id l.toArray false) Q σ w := by
  intro a ha
  refine wp_region_lit ?_
  have := wpList_cut (l := []) (R := fun e a' w' => ∃ σ', Fits n a' σ' ∧ Q e σ' w') (Z := fun a' w' => ∃ σ', Fits n a' σ' ∧ Q .normal σ' w') (fun a' w' h => h) l a w (h a ha)
  simpa using this

variable {ops : Array Oper} {rest : List Oper} {K : Env → World → Prop}

theorem WL.nil (h : K σ w) : WL P n ops [] K σ w := fun _ ha => ⟨rfl, σ, ha, h⟩
theorem WL.cut (J : Env → World → Prop) (l1 : List Oper) (h1 : WL P n ops l1 J σ w) (h2 : ∀ σ w, J σ w → WL P n ops rest K σ w) : WL P n ops (l1 ++ rest) K σ w :=
  fun a ha => wpList_cut (fun a' w' ⟨σ', hf, hj⟩ => h2 σ' w' hj a' hf) l1 a w (h1 a ha)

/-- An operation without a guard that yields a value. -/
theorem WL.val {o : Oper} {d : Nat} {v : Value} {w' : World} (hg : o.guard = none) (hd : o.dst = some d) (hdn : Nat.blt d n = true)
    (hx : (execOp (ev σ) o).run P w = .ok (.value v) w') (h : WL P n ops rest K (upd σ d v) w') : WL P n ops (o :: rest) K σ w := by
  intro a ha
  refine wpList_plain hg fun K' hK' => ?_
  unfold Oper.wp
  rw [ha.eval, hx]
  exact hK' _ _ (by rw [hd]; exact h _ (ha.put hdn v))
theorem WL.unit {o : Oper} {w' : World} (hg : o.guard = none) (hd : o.dst = none)
    (hx : (execOp (ev σ) o).run P w = .ok .skip w') (h : WL P n ops rest K σ w') : WL P n ops (o :: rest) K σ w := by
  intro a ha
  refine wpList_plain hg fun K' hK' => ?_
  unfold Oper.wp
  rw [ha.eval, hx]
  exact hK' _ _ (by rw [hd]; exact h _ ha)
theorem WL.enter {o : Oper} {d : Nat} {f : FuncId} {args : Array Value} {w1 : World} {R1 : Ending → World → Prop} (hg : o.guard = none) (hd : o.dst = some d) (hdn : Nat.blt d n = true)
    (hx : (execOp (ev σ) o).run P w = .ok (.enter f args) w1) (hc : Calls P f args w1 R1)
    (hr : ∀ e w', R1 e w' → ∃ r, e = .returned r ∧ WL P n ops rest K (upd σ d r) w') : WL P n ops (o :: rest) K σ w := by
  intro a ha
  refine wpList_plain hg fun K' hK' => ?_
  unfold Oper.wp
  rw [ha.eval, hx]
  simp only [Oper.upon]
  refine hc.mono ?_
  intro e w' h
  obtain ⟨r, rfl, hh⟩ := hr e w' h
  exact hK' _ _ (by rw [hd]; exact hh _ (ha.put hdn r))
theorem yielded_of {a : Act} (ha : Fits n a σ) {j t : Nat} {b : Bool} (hj : (ops[j]?).bind (·.dst) = some t) (hb : σ t = .bool b) : yielded ops a.tmps j = some b := by
  unfold yielded
  rw [hj]
  have h1 := ha.get t
  rw [hb] at h1
  have h2 : a.tmps[t]? = some (.bool b) := by
    cases h : a.tmps[t]? with
    | none => rw [Array.getD_eq_getD_getElem?, h] at h1; simp [undef] at h1
    | some v => rw [Array.getD_eq_getD_getElem?, h] at h1; simpa using h1
  simp [h2]
/-- A guarded operation whose guard does not stand. -/
theorem WL.off {o : Oper} {d j t : Nat} {want b : Bool} (hg : o.guard = some (j, want)) (hj : (ops[j]?).bind (·.dst) = some t) (hb : σ t = .bool b) (hne : (b == want) = false)
    (hd : o.dst = some d) (hdn : Nat.blt d n = true) (h : WL P n ops rest K (upd σ d undef) w) : WL P n ops (o :: rest) K σ w := by
  intro a ha
  refine wpList_step fun K' hK' => ?_
  have hw : Region.wanted o (yielded ops a.tmps) = false := by
    simp only [Region.wanted, hg, yielded_of ha hj hb]
    cases b <;> cases want <;> simp_all
  rw [if_neg (by rw [hw]; simp)]
  exact hK' _ _ (by rw [hd]; exact h _ (ha.put hdn _))
/-- A guarded operation whose guard stands. -/
theorem WL.on {o : Oper} {j t : Nat} {want b : Bool} (hg : o.guard = some (j, want)) (hj : (ops[j]?).bind (·.dst) = some t) (hb : σ t = .bool b) (hne : (b == want) = true)
    (h : WL P n ops (({ o with guard := none } : Oper) :: rest) K σ w) : WL P n ops (o :: rest) K σ w := by
  intro a ha
  have h1 := h a ha
  have hw : Region.wanted o (yielded ops a.tmps) = true := by
    simp only [Region.wanted, hg, yielded_of ha hj hb]
    cases b <;> cases want <;> simp_all
  have hw' : Region.wanted ({ o with guard := none } : Oper) (yielded ops a.tmps) = true := rfl
  unfold wpList at h1 ⊢
  rw [if_pos hw'] at h1
  rw [if_pos hw]
  exact h1
end Go.Lv
