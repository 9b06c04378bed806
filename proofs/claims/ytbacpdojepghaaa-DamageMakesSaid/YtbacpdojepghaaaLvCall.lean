/- Calls. -/
import Derived.Test.YtbacpdojepghaaaLvApp2
set_option linter.unusedVariables false
set_option linter.unusedSimpArgs false
namespace Go.Lv
variable {P : Program} {n : Nat} {ops : Array Oper} {rest : List Oper} {K : Env → World → Prop} {σ : Env} {w : World}
variable {d : Nat} {ty : TypeId} {pos : String} {after : Array Edge} {A : Reg} {F : List Fact} {L : List Mob}

def envOf (l : List Value) : Env := fun t => l.getD t undef
/-- One result, as it stands at the end. -/
def ResOne (P : Program) (σ : Env) (w : World) : ResultVar → Value → Prop
  | .tmp t, v => σ t = v
  | .cell a t, v => ∃ ad, σ a = .pointer (some ad) ∧ (loadVar t ad).run P w = .ok v w
def ResAll (P : Program) (σ : Env) (w : World) : List ResultVar → List Value → Prop
  | [], [] => True
  | r :: rs, v :: vs => ResOne P σ w r v ∧ ResAll P σ w rs vs
  | _, _ => False
def packRes (vs : List Value) : Value := match vs with | [v] => v | _ => .tuple vs.toArray
def resRun (tmps : Array Value) : ResultVar → Sem Value
  | .tmp t => pure (tmps.getD t undef)
  | .cell a t => do loadVar t (← asAddr (tmps.getD a undef))
theorem run_resRun {a : Act} {r : ResultVar} {v : Value} (ha : Fits n a σ) (h : ResOne P σ w r v) : (resRun a.tmps r).run P w = .ok v w := by
  cases r with
  | tmp t =>
    simp only [ResOne] at h
    simp only [resRun, ha.get, h, Sem.run_pure]
  | cell ad t =>
    obtain ⟨x, h4, h5⟩ := h
    simp only [resRun, ha.get, h4, asAddr, Sem.run_bind, Sem.run_pure, Result.andThen_ok, h5]
theorem run_resAll {a : Act} (ha : Fits n a σ) : ∀ (rs : List ResultVar) (vs : List Value), ResAll P σ w rs vs → (rs.mapM (resRun a.tmps)).run P w = .ok vs w
  | [], [], _ => rfl
  | [], _ :: _, h => h.elim
  | _ :: _, [], h => h.elim
  | r :: rs, v :: vs, ⟨h1, h2⟩ => by
    have h3 := run_resAll ha rs vs h2
    simp only [List.mapM_cons, Sem.run_bind, run_resRun ha h1, Result.andThen_ok, h3, Sem.run_pure]
theorem run_results {fn : Func} {rs : List ResultVar} {a : Act} {vs : List Value} (hr : fn.results = rs.toArray) (ha : Fits n a σ) (h : ResAll P σ w rs vs) :
    (results fn a.tmps).run P w = .ok (packRes vs) w := by
  have hk := run_resAll ha rs vs h
  have e : results fn a.tmps = (do let vs ← fn.results.mapM (resRun a.tmps); pure (if h : vs.size = 1 then vs[0] else .tuple vs)) := rfl
  rw [e, hr, List.mapM_toArray]
  simp only [Sem.run_bind, map_eq_pure_bind, Sem.run_pure, Result.andThen_ok, hk]
  congr 1
  match vs with
  | [] => rfl
  | [v] => rfl
  | a :: b :: r => simp [packRes]
theorem calls_of_W {f : FuncId} {fn : Func} {c : Code} {rs : List ResultVar} {vs : List Value} {R : Ending → World → Prop} (hf : P.funcs[f]? = some fn) (hb : fn.body = some c) (hn : fn.ntmps = n) (hr : fn.results = rs.toArray)
    (hle : Nat.ble vs.length n = true)
    (h : W P n c (fun e σ' w' => (e = .ret ∨ e = .normal) ∧ ∃ us, ResAll P σ' w' rs us ∧ R (.returned (packRes us)) w') (envOf vs) w) : Calls P f vs.toArray w R := by
  subst hn
  have hle' : vs.length ≤ fn.ntmps := by simpa using hle
  refine calls_of_wp hf hb (wp_mono (h _ ⟨by simp; omega, rfl, fun t => ?_⟩) ?_)
  · simp only [envOf, Array.getD_eq_getD_getElem?, List.getD_eq_getElem?_getD, Array.getElem?_append, List.size_toArray, List.getElem?_toArray]
    by_cases ht : t < vs.length
    · simp [ht]
    · rw [if_neg ht, List.getElem?_eq_none (by omega)]
      by_cases h2 : t - vs.length < fn.ntmps - vs.length
      · simp [Array.getElem?_replicate, h2]
      · simp [Array.getElem?_replicate, h2]
  · rintro e a' w' ⟨σ', hf', hh, us, h1, h2⟩
    have hres := run_results (P := P) (w := w') hr hf' h1
    rcases hh with rfl | rfl <;> exact ⟨hf'.defers, _, hres, h2⟩

/-- The state at the beginning of a call: everything that is there is only read. -/
theorem St.start (w : World) : St (fun b => b < w.heap.size) w [.old (fun _ => False) w] [] := by
  refine ⟨fun _ h => h, fun f hf => ?_, trivial⟩
  cases hf with
  | head => exact ⟨.refl _, fun b hb _ => ⟨hb, rfl⟩⟩
  | tail _ h => cases h
theorem Rd.start {R : Reg} {s : Nat} {v : Value} {cs : List Value} (h : Rd R w s v cs) : Rd (fun b => b < w.heap.size ∧ R b) w s v cs := by
  obtain ⟨p, len, cap, h1, h2, h3, h4, h5⟩ := h
  refine ⟨p, len, cap, h1, h2, h3, h4, fun hc => ?_⟩
  obtain ⟨b, off, arr, T, fr, e1, e2, e3, e4⟩ := h5 hc
  exact ⟨b, off, arr, T, fr, e1, ⟨lt_of_heap e3, e2⟩, e3, e4⟩
/-- The region of what is new since a world. -/
def New (w0 : World) : Reg := fun b => w0.heap.size ≤ b
theorem St.keepOld (hs : St A w F L) {w0 : World} {i : Nat} (hF : F[i]? = some (.old (fun _ => False) w0)) : Keep w0 w := by
  obtain ⟨h1, h2⟩ := hs.fact i hF
  exact ⟨fun b hb => (h2 b hb (fun h => h)).2, h1⟩
/-- What a call hands back: facts in new blocks, and slices of its own. -/
theorem St.fr (hs : St A w F L) {w0 : World} {i : Nat} (hF : F[i]? = some (.old (fun _ => False) w0)) {F1 : List Fact} {L1 : List Mob}
    (hF1 : ∀ A1 : Reg, (∀ b, A1 b ↔ A b ∧ w0.heap.size ≤ b) → ∀ f ∈ F1, f.holds A1 w) (hL : L1.length ≤ L.length) (hL1 : L.take L1.length = L1) : Fr w0 w F1 L1 := by
  obtain ⟨h1, h2⟩ := hs.fact i hF
  refine ⟨hs.keepOld hF, fun b => A b ∧ w0.heap.size ≤ b, fun b hb => ⟨hb.2, hs.lt b hb.1⟩, hF1 _ (fun _ => Iff.rfl), ?_⟩
  have key : ∀ (L1 L : List Mob) (A : Reg), L.take L1.length = L1 → Mobs w A L → Mobs w A L1 := by
    intro L1
    induction L1 with
    | nil => intro _ _ _ _; trivial
    | cons m L1 ih =>
      intro L A he hm
      cases L with
      | nil => simp at he
      | cons m' L =>
        simp only [List.length_cons, List.take_succ_cons, List.cons.injEq] at he
        obtain ⟨rfl, he⟩ := he
        obtain ⟨o, h1, h2, h3⟩ := hm
        exact ⟨o, h1, h2, ih L _ he h3⟩
  refine (key L1 L A hL1 hs.mobs).anti ?_
  rintro b (h | h)
  · exact h.1
  · exact (h2 b h (fun h => h)).1
theorem fr_nil (hs : St A w F L) {w0 : World} {i : Nat} (hF : F[i]? = some (.old (fun _ => False) w0)) : Fr w0 w [] [] := Fr.nil (hs.keepOld hF)
theorem fr_own (hs : St A w F L) {w0 : World} {i : Nat} (hF : F[i]? = some (.old (fun _ => False) w0)) {j : Nat} {m : Mob} (hL : L[j]? = some m) : Fr w0 w [] [m] :=
  (hs.front hL).fr hF (fun _ _ f hf => by cases hf) (by simp) (by simp)
theorem Rd.inNew {w0 : World} {s : Nat} {v : Value} {cs : List Value} {A1 : Reg} (h : Rd (fun b => A b ∧ New w0 b) w s v cs) (h1 : ∀ b, A1 b ↔ A b ∧ w0.heap.size ≤ b) : Rd (fun b => A1 b ∧ True) w s v cs :=
  h.step (fun b hb => ⟨(h1 b).2 hb, trivial⟩) (fun _ _ => rfl)
end Go.Lv
