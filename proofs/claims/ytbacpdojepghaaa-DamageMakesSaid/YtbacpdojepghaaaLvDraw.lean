/- Regions that draw their order. -/
import Derived.Test.YtbacpdojepghaaaLvMore
import Derived.StillTail
set_option linter.unusedVariables false
set_option linter.unusedSimpArgs false
namespace Go.Lv
variable {P : Program} {n : Nat} {ops : Array Oper} {σ : Env} {w : World}

section
variable {Q : Exit → Act → World → Prop} {md : Region.Mode} {S : World → Prop} {T : Nat}
/-- Whatever order is picked; S holds behind every operation ahead of number T. -/
def wpAnyT (P : Program) (md : Region.Mode) (ops : Array Oper) (Q : Exit → Act → World → Prop) (S : World → Prop) (T : Nat) : Nat → Array Bool → Act → World → Prop
  | 0, listed, a, w => Region.ready md ops listed = [] ∧ Q .normal a w
  | fuel + 1, listed, a, w =>
    (Region.ready md ops listed = [] → Q .normal a w) ∧
    ∀ i ∈ Region.ready md ops listed, wpOp P ops Q i (fun a' w' => (i < T → S w') ∧ wpAnyT P md ops Q S T fuel (listed.setIfInBounds i true) a' w') a w
theorem wpAny_of_T : ∀ (fuel : Nat) (listed : Array Bool) (a : Act) (w : World), wpAnyT P md ops Q S T fuel listed a w → wpAny P md ops Q fuel listed a w
  | 0, _, _, _, h => h
  | fuel + 1, _, _, _, h => ⟨h.1, fun i hi => wpOp_mono (fun a' w' h' => wpAny_of_T fuel _ a' w' h'.2) (h.2 i hi)⟩
theorem wpAnyT_of_any : ∀ (fuel : Nat) (listed : Array Bool) (a : Act) (w : World), (∀ i ∈ Region.ready md ops listed, T ≤ i) → (∀ i, listed.getD i true = false → T ≤ i) → wpAny P md ops Q fuel listed a w → wpAnyT P md ops Q S T fuel listed a w
  | 0, _, _, _, _, _, h => h
  | fuel + 1, listed, a, w, h1, h2, h => ⟨h.1, fun i hi => wpOp_mono (fun a' w' h' => ⟨fun hlt => absurd (h1 i hi) (by omega), wpAnyT_of_any fuel _ a' w' (fun j hj => h2 j (by
      have := (mem_ready.1 hj).1
      by_cases hji : j = i
      · subst hji; exact (mem_ready.1 hi).1
      · rw [getD_set_ne true (Ne.symm hji)] at this; exact this)) (fun j hj => h2 j (by
      by_cases hji : j = i
      · subst hji; exact (mem_ready.1 hi).1
      · rw [getD_set_ne true (Ne.symm hji)] at hj; exact hj)) h'⟩) (h.2 i hi)⟩
/-- Every operation from number T on waits for number i. -/
def waitAll (md : Region.Mode) (ops : Array Oper) (T i : Nat) : Bool :=
  (List.range ops.size).all fun j => Nat.blt j T || j == i || match ops[j]? with
    | some oj => oj.after.any fun e => Region.binds md e && e.on == i
    | none => true
theorem waitAll_spec {i j : Nat} {oj : Oper} (h : waitAll md ops T i = true) (hj : ops[j]? = some oj) (hT : T ≤ j) (hne : j ≠ i) : ∃ e ∈ oj.after, Region.binds md e = true ∧ e.on = i := by
  simp only [waitAll, List.all_eq_true, List.mem_range] at h
  have h1 := h j (Array.getElem?_eq_some_iff.1 hj).1
  have h2 : Nat.blt j T = false := by
    cases hb : Nat.blt j T with
    | false => rfl
    | true => have : j < T := by simpa [Nat.blt_eq] using hb
              omega
  simp only [hj, h2, Bool.false_or, Bool.or_eq_true, beq_iff_eq, hne, false_or] at h1
  obtain ⟨e, he, hb⟩ := Array.any_eq_true'.1 h1
  simp only [Bool.and_eq_true, beq_iff_eq] at hb
  exact ⟨e, he, hb.1, hb.2⟩
theorem wpAnyT_first {i : Nat} {oi : Oper} {v : Value} (hi : ops[i]? = some oi) (hsel : ∀ (j : Nat) (o : Oper) cs b, ops[j]? = some o → o.op ≠ .select cs b)
    (hQ : ∀ c a w, Q (.panic c) (a.put oi.dst v) w → Q (.panic c) a w) (hT : waitAll md ops T i = true) :
    ∀ (fuel : Nat) (listed : Array Bool) (a : Act) (w : World),
      (∀ j oj, ops[j]? = some oj → j ≠ i → listed.getD j true = false → (∀ e ∈ oj.after, Region.binds md e = true → e.on ≠ i) → oi.apart ops oj = true) →
      i ∈ Region.ready md ops listed → YieldsIf P ops S oi v a → S w →
      wpAnyT P md ops Q S T fuel (listed.setIfInBounds i true) (a.put oi.dst v) w → wpAnyT P md ops Q S T (fuel + 1) listed a w := by
  intro fuel
  induction fuel with
  | zero =>
    intro listed a w _ hr hy hS H
    refine ⟨fun h => (by rw [h] at hr; cases hr), fun j hj => ?_⟩
    by_cases hji : j = i
    · subst hji; exact hy.wpOp hi hS ⟨fun _ => hS, H⟩
    · have := ready_mono hj hji
      rw [H.1] at this
      cases this
  | succ fuel ih =>
    intro listed a w hfree hr hy hS H
    refine ⟨fun h => (by rw [h] at hr; cases hr), fun j hj => ?_⟩
    by_cases hji : j = i
    · subst hji; exact hy.wpOp hi hS ⟨fun _ => hS, H⟩
    · have h1 := H.2 j (ready_mono hj hji)
      obtain ⟨hjun, oj, hoj, hall⟩ := mem_ready.1 hj
      have hnot : ∀ e ∈ oj.after, Region.binds md e = true → e.on ≠ i := fun e he hb heq => by
        have h1 := hall e he hb
        have h0 := (mem_ready.1 hr).1
        rw [heq] at h1
        rcases Nat.lt_or_ge i listed.size with h' | h'
        · simp [h'] at h0 h1; rw [h0] at h1; cases h1
        · simp [Array.getElem?_eq_none h'] at h1
      have hjT : j < T := by
        rcases Nat.lt_or_ge j T with h | h
        · exact h
        · obtain ⟨e, he, hb, heq⟩ := waitAll_spec hT hoj h hji
          exact absurd heq (hnot e he hb)
      have h2 := wpOp_putIf hoj (hfree j oj hoj hji hjun hnot) (fun cs b => hsel i oi cs b hi) (fun cs b => hsel j oj cs b hoj) hQ hy h1
      have hfree' : ∀ k ok, ops[k]? = some ok → k ≠ i → (listed.setIfInBounds j true).getD k true = false →
          (∀ e ∈ ok.after, Region.binds md e = true → e.on ≠ i) → oi.apart ops ok = true := fun k ok hk hki hun hno => by
        refine hfree k ok hk hki ?_ hno
        by_cases hjk : j = k
        · subst hjk; exact hjun
        · rw [getD_set_ne true hjk] at hun; exact hun
      refine wpOp_mono (fun a' w' h3 => ⟨h3.2.1, ih (listed.setIfInBounds j true) a' w' hfree' (ready_mono hr (Ne.symm hji)) h3.1 (h3.2.1 hjT) ?_⟩) h2
      rw [Array.setIfInBounds_comm _ _ hji]
      exact h3.2.2
end

/-- A region that draws its order, from an environment. -/
def WD (P : Program) (n : Nat) (ops : Array Oper) (S : World → Prop) (T fuel : Nat) (listed : Array Bool) (K : Env → World → Prop) (σ : Env) (w : World) : Prop :=
  ∀ a, Fits n a σ → wpAnyT P .any ops (fun e a' w' => e = Exit.normal ∧ ∃ σ', Fits n a' σ' ∧ K σ' w') S T fuel listed a w

variable {Q : Exit → Env → World → Prop} {K : Env → World → Prop} {S : World → Prop} {T fuel : Nat} {listed : Array Bool}
theorem wp_region_cut {id : Nat} {a : Act} {Z : Act → World → Prop} {R : Exit → Act → World → Prop} (h : (Code.region id ops true).wp P (fun e a w => e = Exit.normal ∧ Z a w) a w) (h2 : ∀ a w, Z a w → R .normal a w) :
    (Code.region id ops true).wp P R a w := wp_mono h fun e a w hh => by obtain ⟨rfl, hz⟩ := hh; exact h2 a w hz
theorem W.regionD {id : Nat} (hm : P.follows .mixedOrders = true) (S : World → Prop) (T : Nat)
    (h : ∀ w', w'.heap = w.heap → Gr w w' → WD P n ops S T ops.size (Array.replicate ops.size false) (fun σ' w' => Q .normal σ' w') σ w') : W P n (.region id ops true) Q σ w := by
  intro a ha
  refine wp_region_cut (Z := fun a' w' => ∃ σ', Fits n a' σ' ∧ Q .normal σ' w') ?_ (fun a w h => h)
  exact wp_region_any hm (wpAny_of_T (S := S) (T := T) _ _ _ _ (h { w with drawn := w.drawn + 1 } rfl ⟨Nat.le_refl _, rfl, rfl, rfl⟩ a ha))
/-- Take number i first. -/
def takeB (ops : Array Oper) (T : Nat) (listed : Array Bool) (i : Nat) : Bool :=
  Region.noSelect ops && Region.free .any ops listed i && (Region.ready .any ops listed).contains i && waitAll .any ops T i
theorem WD.take {o : Oper} {d : Nat} {v : Value} (i : Nat) (hi : ops[i]? = some o) (hB : takeB ops T listed i = true) (hd : o.dst = some d) (hdn : Nat.blt d n = true) (hg : o.guard = none)
    (hS : S w) (hx : ∀ w', S w' → (execOp (ev σ) o).run P w' = .ok (.value v) w') (h : WD P n ops S T fuel (listed.setIfInBounds i true) K (upd σ d v) w) : WD P n ops S T (fuel + 1) listed K σ w := by
  intro a ha
  simp only [takeB, Bool.and_eq_true] at hB
  refine wpAnyT_first (v := v) hi (Region.noSelect_spec hB.1.1.1) (fun c a w h => absurd h.1 (by simp)) hB.2 fuel listed a w (Region.free_spec hi hB.1.1.2) (by simpa using hB.1.2) (.inl ⟨by simp [Region.wanted, hg], fun w' hw' => by rw [ha.eval]; exact hx w' hw'⟩) hS ?_
  rw [hd]; exact h _ (ha.put hdn v)
theorem WD.x {op : Op} {d : Nat} {ty : TypeId} {pos : String} {after : Array Edge} {v : Value} (i : Nat) (hi : ops[i]? = some ⟨some d, op, ty, pos, after, none⟩) (hB : takeB ops T listed i = true) (hdn : Nat.blt d n = true)
    (hS : S w) (hx : ∀ w', S w' → XO P σ w' op v) (h : WD P n ops S T fuel (listed.setIfInBounds i true) K (upd σ d v) w) : WD P n ops S T (fuel + 1) listed K σ w :=
  WD.take i hi hB rfl hdn rfl hS (fun w' hw' => hx w' hw' _ _ _ _ _) h
theorem WD.gx {op : Op} {d j t : Nat} {ty : TypeId} {pos : String} {after : Array Edge} {v : Value} {want b : Bool} (i : Nat) (hi : ops[i]? = some ⟨some d, op, ty, pos, after, some (j, want)⟩) (hB : takeB ops T listed i = true) (hdn : Nat.blt d n = true)
    (hj : (ops[j]?).bind (·.dst) = some t) (hb : σ t = .bool b) (hS : S w) (hx : (b == want) = true → ∀ w', S w' → XO P σ w' op v)
    (h : WD P n ops S T fuel (listed.setIfInBounds i true) K (upd σ d (gv b want v)) w) : WD P n ops S T (fuel + 1) listed K σ w := by
  intro a ha
  simp only [takeB, Bool.and_eq_true] at hB
  refine wpAnyT_first (v := gv b want v) hi (Region.noSelect_spec hB.1.1.1) (fun c a w h => absurd h.1 (by simp)) hB.2 fuel listed a w (Region.free_spec hi hB.1.1.2) (by simpa using hB.1.2) ?_ hS (h _ (ha.put hdn _))
  by_cases hbw : (b == want) = true
  · refine .inl ⟨?_, fun w' hw' => ?_⟩
    · simp only [Region.wanted, yielded_of ha hj hb]; cases b <;> cases want <;> simp_all
    · rw [gv_on hbw, ha.eval]; exact hx hbw w' hw' _ _ _ _ _
  · refine .inr ⟨?_, ?_⟩
    · simp only [Region.wanted, yielded_of ha hj hb]; cases b <;> cases want <;> simp_all
    · unfold gv; rw [if_neg hbw]
/-- The only one that may come up, carried out where it stands. -/
theorem WD.step (i : Nat) {o : Oper} (hi : ops[i]? = some o) (hr : Region.ready .any ops listed = [i]) {ops' : Array Oper}
    (h : WL P n ops [o] (fun σ' w' => (i < T → S w') ∧ WD P n ops S T fuel (listed.setIfInBounds i true) K σ' w') σ w) : WD P n ops S T (fuel + 1) listed K σ w := by
  intro a ha
  refine ⟨fun h0 => absurd (hr ▸ h0) (by simp), fun j hj => ?_⟩
  rw [hr] at hj
  have hji : j = i := by simpa using hj
  subst hji
  have h1 := h a ha
  simp only [wpList] at h1
  unfold wpOp
  simp only [hi]
  split
  · rename_i hw
    rw [if_pos hw] at h1
    rcases h1 with h1 | ⟨_, _, _, hh, _⟩
    · exact .inl (Oper.wp_cut h1 (fun a' w' h => by obtain ⟨_, σ', hf, h2, h3⟩ := h; exact ⟨h2, h3 a' hf⟩))
    · exact absurd hh (by simp)
  · rename_i hw
    rw [if_neg hw] at h1
    obtain ⟨_, σ', hf, h2, h3⟩ := h1
    exact ⟨h2, h3 _ hf⟩
/-- What is left comes up in the order of the text. -/
def tailB (ops : Array Oper) (T fuel : Nat) (listed : Array Bool) : Bool :=
  Region.seqB .any ops fuel T listed && (List.range listed.size).all fun i => Nat.ble T i || listed.getD i false
theorem WD.tail (l : List Oper) (hl : ops.toList.drop T = l) (hf : l.length = fuel) (hB : tailB ops T fuel listed = true) (h : WL P n ops l K σ w) : WD P n ops S T fuel listed K σ w := by
  intro a ha
  simp only [tailB, Bool.and_eq_true, List.all_eq_true, List.mem_range, Bool.or_eq_true] at hB
  refine wpAnyT_of_any _ _ _ _ (fun i hi => seqB_ready hB.1 i hi) (fun i hi => ?_) ?_
  · rcases Nat.lt_or_ge i listed.size with h' | h'
    · rcases hB.2 i h' with h2 | h2
      · simpa using h2
      · rw [Array.getD_eq_getD_getElem?] at hi h2
        simp [h'] at hi h2
        rw [h2] at hi; cases hi
    · rw [Array.getD_eq_getD_getElem?, Array.getElem?_eq_none h'] at hi
      simp at hi
  · subst hf
    refine wpAny_of_seq l T listed a w (fun j => ?_) hB.1 (h a ha)
    rw [← hl, List.getElem?_drop, Array.getElem?_toList]
theorem WD.done (hr : Region.ready .any ops listed = []) (h : K σ w) : WD P n ops S T fuel listed K σ w := by
  intro a ha
  cases fuel with
  | zero => exact ⟨hr, rfl, σ, ha, h⟩
  | succ f => exact ⟨fun _ => ⟨rfl, σ, ha, h⟩, by rw [hr]; intro i hi; cases hi⟩
end Go.Lv
