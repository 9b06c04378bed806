/- What is read only and what is one's own in memory. -/
import Derived.Test.YtbacpdojepghaaaLvBase
set_option linter.unusedVariables false
set_option linter.unusedSimpArgs false
namespace Go.Lv

abbrev Reg := Nat → Prop
def Same (A : Reg) (w w' : World) : Prop := ∀ b, A b → w'.heap[b]? = w.heap[b]?
/-- The world grew at most, and said nothing. -/
structure Gr (w w' : World) : Prop where
  le : w.heap.size ≤ w'.heap.size
  os : w'.os = w.os
  tape : w'.tape = w.tape
  output : w'.output = w.output
theorem Gr.refl (w : World) : Gr w w := ⟨Nat.le_refl _, rfl, rfl, rfl⟩
theorem Gr.trans {a b c : World} (h : Gr a b) (h' : Gr b c) : Gr a c := ⟨Nat.le_trans h.le h'.le, h'.os.trans h.os, h'.tape.trans h.tape, h'.output.trans h.output⟩
/-- Everything that was there is as it was. -/
structure Keep (w w' : World) : Prop where
  same : ∀ b, b < w.heap.size → w'.heap[b]? = w.heap[b]?
  gr : Gr w w'
theorem Keep.le {w w' : World} (h : Keep w w') : w.heap.size ≤ w'.heap.size := h.gr.le
theorem Keep.refl (w : World) : Keep w w := ⟨fun _ _ => rfl, .refl _⟩
theorem Keep.trans {a b c : World} (h : Keep a b) (h' : Keep b c) : Keep a c :=
  ⟨fun i hi => (h'.same i (Nat.lt_of_lt_of_le hi h.le)).trans (h.same i hi), h.gr.trans h'.gr⟩
theorem lt_of_heap {w : World} {b : Nat} {o : Obj} (h : w.heap[b]? = some o) : b < w.heap.size := by
  rcases Nat.lt_or_ge b w.heap.size with h' | h'
  · exact h'
  · rw [Array.getElem?_eq_none h'] at h; cases h

/-- A slice that reads as these cells (s cells to an element), in blocks of a region. -/
def Rd (A : Reg) (w : World) (s : Nat) (v : Value) (cs : List Value) : Prop :=
  ∃ (p : Option Addr) (len cap : Nat), v = .slice p len cap ∧ cs.length = len * s ∧ len ≤ cap ∧ (p = none → cap = 0) ∧
    (0 < cap → ∃ b off arr T fr, p = some ⟨b, off, none⟩ ∧ A b ∧ w.heap[b]? = some (.cells arr T fr) ∧ off + cap * s ≤ arr.size ∧ ∀ i, i < len * s → arr[off + i]? = cs[i]?)
theorem Rd.step {A A' : Reg} {w w' : World} {s : Nat} {v : Value} {cs : List Value} (h : Rd A w s v cs) (ha : ∀ b, A b → A' b) (hs : Same A w w') : Rd A' w' s v cs := by
  obtain ⟨p, len, cap, h1, h2, h3, h4, h5⟩ := h
  refine ⟨p, len, cap, h1, h2, h3, h4, fun hc => ?_⟩
  obtain ⟨b, off, arr, T, fr, e1, e2, e3, e4⟩ := h5 hc
  exact ⟨b, off, arr, T, fr, e1, ha _ e2, (hs b e2).trans e3, e4⟩
theorem Rd.nil {A : Reg} {w : World} {s : Nat} : Rd A w s (.slice none 0 0) [] := ⟨none, 0, 0, rfl, by simp, Nat.le_refl _, fun _ => rfl, fun h => absurd h (by simp)⟩

structure Fact where
  holds : Reg → World → Prop
  step : ∀ {A A' : Reg} {w w' : World}, holds A w → (∀ b, A b → A' b) → Same A w w' → Gr w w' → holds A' w'
/-- A slice that is only read, in blocks of a region of its own as well. -/
def Fact.rd (R : Reg) (s : Nat) (v : Value) (cs : List Value) : Fact where
  holds A w := Rd (fun b => A b ∧ R b) w s v cs
  step h ha hs _ := h.step (fun b ⟨h1, h2⟩ => ⟨ha b h1, h2⟩) (fun b ⟨h1, _⟩ => hs b h1)
/-- A block that is only read. -/
def Fact.box (R : Reg) (b : Nat) (cells : List Value) (T : TypeId) : Fact where
  holds A w := A b ∧ R b ∧ ∃ fr, w.heap[b]? = some (.cells cells.toArray T fr)
  step h ha hs _ := ⟨ha _ h.1, h.2.1, h.2.2.imp fun _ e => (hs _ h.1).trans e⟩
/-- A list of slices. -/
def Fact.rds (R : Reg) (s : Nat) (vs : List Value) (css : List (List Value)) : Fact where
  holds A w := vs.length = css.length ∧ ∀ (i : Nat) (v : Value) (cs : List Value), vs[i]? = some v → css[i]? = some cs → Rd (fun b => A b ∧ R b) w s v cs
  step := fun {A A' w w'} h ha hs _ => ⟨h.1, fun i v cs h1 h2 => (h.2 i v cs h1 h2).step (fun b ⟨h1, h2⟩ => ⟨ha b h1, h2⟩) (fun b ⟨h1, _⟩ => hs b h1)⟩
/-- The frame: what was there when the call began. -/
def Fact.old (M : Reg) (w0 : World) : Fact where
  holds A w := Gr w0 w ∧ ∀ b, b < w0.heap.size → ¬ M b → A b ∧ w.heap[b]? = w0.heap[b]?
  step := fun h ha hs hsz => ⟨h.1.trans hsz, fun b hb hM => ⟨ha b (h.2 b hb hM).1, (hs b (h.2 b hb hM).1).trans (h.2 b hb hM).2⟩⟩

structure Mob where
  holds : Option Nat → World → Prop
  step : ∀ {o : Option Nat} {w w' : World}, holds o w → (∀ b, o = some b → w'.heap[b]? = w.heap[b]?) → holds o w'
def Mob.box (b : Nat) (cells : List Value) (T : TypeId) : Mob where
  holds o w := o = some b ∧ w.heap[b]? = some (.cells cells.toArray T (0, 0))
  step h hs := ⟨h.1, (hs _ h.1).trans h.2⟩
def Mob.own (s : Nat) (E : TypeId) (v : Value) (cs : List Value) : Mob where
  holds o w := ∃ (p : Option Addr) (len cap : Nat), v = .slice p len cap ∧ cs.length = len * s ∧ len ≤ cap ∧ (p = none → cap = 0) ∧
    (o = none → cap = 0) ∧ ∀ b, o = some b → ∃ arr fr, p = some ⟨b, 0, none⟩ ∧ w.heap[b]? = some (.cells arr E fr) ∧ arr.size = cap * s ∧
      (fr.2 ≤ fr.1 ∨ arr.size ≤ fr.1) ∧ ∀ i, i < len * s → arr[i]? = cs[i]?
  step := by
    rintro o w w' ⟨p, len, cap, h1, h2, h3, h4, h5, h6⟩ hs
    refine ⟨p, len, cap, h1, h2, h3, h4, h5, fun b hb => ?_⟩
    obtain ⟨arr, fr, e1, e2, e3⟩ := h6 b hb
    exact ⟨arr, fr, e1, (hs b hb).trans e2, e3⟩

/-- The blocks of the mobs lie outside of a region and apart from each other. -/
def Mobs (w : World) : Reg → List Mob → Prop
  | _, [] => True
  | A, m :: L => ∃ o, m.holds o w ∧ (∀ b, o = some b → ¬ A b ∧ b < w.heap.size) ∧ Mobs w (fun b => A b ∨ o = some b) L

theorem Mobs.anti {w : World} : ∀ {L : List Mob} {A A' : Reg}, Mobs w A L → (∀ b, A' b → A b) → Mobs w A' L
  | [], _, _, _, _ => trivial
  | m :: L, A, A', ⟨o, h1, h2, h3⟩, ha => ⟨o, h1, fun b hb => ⟨fun h => (h2 b hb).1 (ha b h), (h2 b hb).2⟩, h3.anti (fun b hb => hb.imp (ha b) id)⟩
/-- The mobs live on where the world changes only in blocks of a region that they avoid. -/
theorem Mobs.step {w w' : World} (hsz : w.heap.size ≤ w'.heap.size) : ∀ {L : List Mob} {A : Reg}, Mobs w A L → (∀ b, b < w.heap.size → ¬ A b → w'.heap[b]? = w.heap[b]?) → Mobs w' A L
  | [], _, _, _ => trivial
  | m :: L, A, ⟨o, h1, h2, h3⟩, hs => ⟨o, m.step h1 (fun b hb => hs b (h2 b hb).2 (h2 b hb).1), fun b hb => ⟨(h2 b hb).1, Nat.lt_of_lt_of_le (h2 b hb).2 hsz⟩,
      h3.step hsz (fun b hb hA => hs b hb (fun h => hA (.inl h)))⟩
theorem Mobs.lt {w : World} : ∀ {L : List Mob} {A : Reg}, Mobs w A L → Mobs w (fun b => A b ∨ w.heap.size ≤ b) L
  | [], _, _ => trivial
  | m :: L, A, ⟨o, h1, h2, h3⟩ => ⟨o, h1, fun b hb => ⟨fun h => h.elim (h2 b hb).1 (fun h => absurd (h2 b hb).2 (Nat.not_lt.2 h)), (h2 b hb).2⟩,
      h3.lt.anti (fun b hb => by rcases hb with (h | h) | h <;> simp [h])⟩
theorem Mobs.swap {w : World} {A : Reg} {m1 m2 : Mob} {L : List Mob} : Mobs w A (m1 :: m2 :: L) → Mobs w A (m2 :: m1 :: L) := by
  rintro ⟨o1, h1, h2, o2, h3, h4, h5⟩
  refine ⟨o2, h3, fun b hb => ⟨fun h => (h4 b hb).1 (.inl h), (h4 b hb).2⟩, o1, h1, fun b hb => ⟨?_, (h2 b hb).2⟩, h5.anti ?_⟩
  · rintro (h | h)
    · exact (h2 b hb).1 h
    · exact (h4 b h).1 (.inr hb)
  · rintro b ((h | h) | h) <;> simp [h]
theorem Mobs.perm {w : World} {L L' : List Mob} (hp : L.Perm L') : ∀ {A : Reg}, Mobs w A L → Mobs w A L' := by
  induction hp with
  | nil => exact fun h => h
  | cons m _ ih => exact fun ⟨o, h1, h2, h3⟩ => ⟨o, h1, h2, ih h3⟩
  | swap m1 m2 L => exact Mobs.swap
  | trans _ _ ih1 ih2 => exact fun h => ih2 (ih1 h)
theorem Mobs.drop {w : World} {m : Mob} {L : List Mob} {A : Reg} : Mobs w A (m :: L) → Mobs w A L
  | ⟨_, _, _, h3⟩ => h3.anti (fun _ h => .inl h)

/-- The state of memory: facts on a region that nobody writes, and what may be written, apart from it and from each other. -/
structure St (A : Reg) (w : World) (F : List Fact) (L : List Mob) : Prop where
  lt : ∀ b, A b → b < w.heap.size
  facts : ∀ f ∈ F, f.holds A w
  mobs : Mobs w A L

theorem St.fact {A : Reg} {w : World} {F : List Fact} {L : List Mob} (h : St A w F L) (i : Nat) {f : Fact} (hi : F[i]? = some f) : f.holds A w :=
  h.facts f (List.mem_of_getElem? hi)
theorem perm_front {α : Type} {l : List α} {i : Nat} {m : α} (h : l[i]? = some m) : (m :: l.eraseIdx i).Perm l := by
  induction l generalizing i with
  | nil => simp at h
  | cons x l ih =>
    cases i with
    | zero => simp at h; subst h; exact .refl _
    | succ i =>
      simp at h
      exact (List.Perm.swap x m _).trans ((ih h).cons x)
theorem perm_set {α : Type} {l : List α} {i : Nat} {m m' : α} (h : l[i]? = some m) : (m' :: l.eraseIdx i).Perm (l.set i m') := by
  induction l generalizing i with
  | nil => simp at h
  | cons x l ih =>
    cases i with
    | zero => simp
    | succ i =>
      simp at h
      exact (List.Perm.swap x m' _).trans ((ih h).cons x)
/-- Bring mob number i to the front. -/
theorem St.front {A : Reg} {w : World} {F : List Fact} {L : List Mob} (h : St A w F L) {i : Nat} {m : Mob} (hi : L[i]? = some m) : St A w F (m :: L.eraseIdx i) :=
  ⟨h.lt, h.facts, h.mobs.perm (perm_front hi).symm⟩
theorem St.back {A : Reg} {w : World} {F : List Fact} {L : List Mob} {i : Nat} {m m' : Mob} (hi : L[i]? = some m) (h : St A w F (m' :: L.eraseIdx i)) : St A w F (L.set i m') :=
  ⟨h.lt, h.facts, h.mobs.perm (perm_set hi)⟩
theorem St.dropM {A : Reg} {w : World} {F : List Fact} {L : List Mob} {m : Mob} (h : St A w F (m :: L)) : St A w F L := ⟨h.lt, h.facts, h.mobs.drop⟩
theorem St.dropF {A : Reg} {w : World} {F : List Fact} {L : List Mob} {f : Fact} (h : St A w (f :: F) L) : St A w F L := ⟨h.lt, fun g hg => h.facts g (.tail _ hg), h.mobs⟩
theorem St.addF {A : Reg} {w : World} {F : List Fact} {L : List Mob} {f : Fact} (h : St A w F L) (hf : f.holds A w) : St A w (f :: F) L :=
  ⟨h.lt, fun g hg => by cases hg with | head => exact hf | tail _ hg => exact h.facts g hg, h.mobs⟩

/-- A world that only grew. -/
theorem St.keep {A : Reg} {w w' : World} {F : List Fact} {L : List Mob} (h : St A w F L) (hk : Keep w w') : St A w' F L :=
  ⟨fun b hb => Nat.lt_of_lt_of_le (h.lt b hb) hk.le, fun f hf => f.step (h.facts f hf) (fun _ h => h) (fun b hb => hk.same b (h.lt b hb)) hk.gr,
    h.mobs.step hk.le (fun b hb _ => hk.same b hb)⟩
/-- What a call hands back in memory of its own. -/
structure Fr (w w' : World) (F1 : List Fact) (L1 : List Mob) : Prop where
  keep : Keep w w'
  own : ∃ A1 : Reg, (∀ b, A1 b → w.heap.size ≤ b ∧ b < w'.heap.size) ∧ (∀ f ∈ F1, f.holds A1 w') ∧ Mobs w' (fun b => A1 b ∨ b < w.heap.size) L1
theorem Fr.nil {w w' : World} (h : Keep w w') : Fr w w' [] [] := ⟨h, fun _ => False, fun _ h => h.elim, fun _ h => (by cases h), trivial⟩
theorem Mobs.append {w : World} : ∀ {L1 L2 : List Mob} {A : Reg} (B : Reg), (∀ b, B b → b < w.heap.size) → Mobs w (fun b => A b ∨ B b) L1 → Mobs w (fun b => A b ∨ ¬ B b) L2 → Mobs w A (L1 ++ L2)
  | [], L2, A, B, _, _, h2 => h2.anti (fun _ h => .inl h)
  | m :: L1, L2, A, B, hB, ⟨o, h1, h2, h3⟩, h4 => by
    refine ⟨o, h1, fun b hb => ⟨fun h => (h2 b hb).1 (.inl h), (h2 b hb).2⟩, ?_⟩
    refine Mobs.append B hB (h3.anti ?_) (h4.anti ?_)
    · rintro b ((h | h) | h) <;> simp [h]
    · rintro b ((h | h) | h)
      · exact .inl h
      · exact .inr (fun hb => (h2 b h).1 (.inr hb))
      · exact .inr h
theorem St.call {A : Reg} {w w' : World} {F F1 : List Fact} {L L1 : List Mob} (h : St A w F L) (hf : Fr w w' F1 L1) : ∃ A', St A' w' (F1 ++ F) (L1 ++ L) := by
  have hk := h.keep hf.keep
  obtain ⟨A1, h1, h2, h3⟩ := hf.own
  refine ⟨fun b => A b ∨ A1 b, fun b hb => hb.elim (hk.lt b) (fun h => (h1 b h).2), fun f hf' => ?_, ?_⟩
  · rcases List.mem_append.1 hf' with hf' | hf'
    · exact f.step (h2 f hf') (fun _ h => .inr h) (fun _ _ => rfl) (.refl _)
    · exact f.step (hk.facts f hf') (fun _ h => .inl h) (fun _ _ => rfl) (.refl _)
  · refine Mobs.append (fun b => b < w.heap.size) (fun b hb => Nat.lt_of_lt_of_le hb hf.keep.le) (h3.anti ?_) ?_
    · rintro b ((h' | h') | h')
      · exact .inr (h.lt b h')
      · exact .inl h'
      · exact .inr h'
    · refine (h.mobs.lt.step hf.keep.le fun b hb _ => hf.keep.same b hb).anti ?_
      rintro b ((h' | h') | h')
      · exact .inl h'
      · exact .inr (h1 b h').1
      · exact .inr (by simpa using h')
end Go.Lv
