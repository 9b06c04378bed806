/- Operations of a region. -/
import Derived.Test.YtbacpdojepghaaaLvVal
set_option linter.unusedVariables false
set_option linter.unusedSimpArgs false
namespace Go.Lv
variable {P : Program} {n : Nat} {ops : Array Oper} {rest : List Oper} {K : Env → World → Prop} {σ : Env} {w : World}
variable {d : Nat} {ty : TypeId} {pos : String} {after : Array Edge}

/-- An operation that yields a value and leaves the world alone. -/
def XO (P : Program) (σ : Env) (w : World) (op : Op) (v : Value) : Prop :=
  ∀ (d : Option Tmp) (ty : TypeId) (pos : String) (after : Array Edge) (g : Option (Nat × Bool)), (execOp (ev σ) ⟨d, op, ty, pos, after, g⟩).run P w = .ok (.value v) w
theorem WL.x {op : Op} {v : Value} (hd : Nat.blt d n = true) (hx : XO P σ w op v) (h : WL P n ops rest K (upd σ d v) w) : WL P n ops (⟨some d, op, ty, pos, after, none⟩ :: rest) K σ w :=
  .val rfl rfl hd (hx _ _ _ _ _) h
/-- The value of a guarded operation. -/
def gv (b want : Bool) (v : Value) : Value := if b == want then v else undef
theorem gv_on {b want : Bool} {v : Value} (h : (b == want) = true) : gv b want v = v := by unfold gv; rw [if_pos h]
theorem WL.gx {op : Op} {v : Value} {j t : Nat} {want b : Bool} (hj : (ops[j]?).bind (·.dst) = some t) (hb : σ t = .bool b) (hd : Nat.blt d n = true)
    (hx : (b == want) = true → XO P σ w op v) (h : WL P n ops rest K (upd σ d (gv b want v)) w) :
    WL P n ops (⟨some d, op, ty, pos, after, some (j, want)⟩ :: rest) K σ w := by
  by_cases hbw : (b == want) = true
  · refine WL.on rfl hj hb hbw (WL.val rfl rfl hd (hx hbw _ _ _ _ _) ?_)
    rw [gv_on hbw] at h; exact h
  · have hbw' : (b == want) = false := by simpa using hbw
    refine WL.off rfl hj hb hbw' rfl hd ?_
    have : gv b want v = undef := by unfold gv; rw [hbw']; simp
    rw [this] at h; exact h

section
variable {x y c : Operand}
theorem X.move {v : Value} (hx : ev σ x = v) : XO P σ w (.move x) v := fun _ _ _ _ _ => by simp [execOp, hx]
theorem X.assign {v : Value} (hx : ev σ x = v) : XO P σ w (.assign x) v := fun _ _ _ _ _ => by simp [execOp, hx]
theorem X.bin {b : BinOp} {t t' : TypeId} {vx vy v : Value} (hx : ev σ x = vx) (hy : ev σ y = vy) (hr : BinOk P b t vx vy v) : XO P σ w (.binOp b t x y t') v := fun _ _ _ _ _ => by
  have := hr x y w
  simp only [execOp, hx, hy, Sem.run_bind, this, Result.andThen_ok]
  simp
theorem X.not {t : TypeId} {b : Bool} (hx : ev σ x = .bool b) : XO P σ w (.unOp .not t x) (.bool (!b)) := fun _ _ _ _ _ => by simp [execOp, hx, Op.unary]
theorem X.neg {T : Type} {k : IntKind} [GI T k] {t : TypeId} {a : T} (hx : ev σ x = iv a) : XO P σ w (.unOp .neg t x) (iv (gneg a)) := fun _ _ _ _ _ => by
  simp [execOp, hx, Op.unary, Op.intArith, gneg, ← ofZ_val]
theorem X.compl {T : Type} {k : IntKind} [GI T k] {t : TypeId} {a : T} (hx : ev σ x = iv a) : XO P σ w (.unOp .xor t x) (iv (gnot a)) := fun _ _ _ _ _ => by
  simp [execOp, hx, Op.unary, Op.intBits, gnot, ← ofZ_val]
theorem X.pick {b : Bool} {vx vy v : Value} (hc : ev σ c = .bool b) (hx : ev σ x = vx) (hy : ev σ y = vy) (hv : (if b then vx else vy) = v) : XO P σ w (.pick c x y) v := fun _ _ _ _ _ => by
  simp [execOp, hc, hx, hy, asBool]; cases b <;> simp at hv <;> simp [hv]
theorem X.pick_or {b e : Bool} (hc : ev σ c = .bool b) (hx : ev σ x = .bool true) (hy : ev σ y = gv b false (.bool e)) : XO P σ w (.pick c x y) (.bool (b || e)) :=
  X.pick hc hx hy (by cases b <;> rfl)
theorem X.pick_and {b e : Bool} (hc : ev σ c = .bool b) (hx : ev σ x = gv b true (.bool e)) (hy : ev σ y = .bool false) : XO P σ w (.pick c x y) (.bool (b && e)) :=
  X.pick hc hx hy (by cases b <;> rfl)
theorem X.extract {i : Nat} {vs : List Value} {v : Value} (hx : ev σ x = .tuple vs.toArray) (hi : vs[i]? = some v) : XO P σ w (.extract x i) v := fun _ _ _ _ _ => by
  simp [execOp, hx, Instr.extract, hi]
theorem X.conv {T T' : Type} {k k' : IntKind} [GI T k] [GI T' k'] {s t : TypeId} {a : T} {u : TypeDesc} (hs : P.underlying s = some u) (ht : P.underlying t = some (.int k'))
    (hx : ev σ x = iv a) : XO P σ w (.convert s t x) (iv (gconv a : T')) := fun _ _ _ _ _ => by
  simp [execOp, hx, convert, run_underlying hs, run_underlying ht, Conv.intToInt, gconv, ← ofZ_val]
theorem X.len_slice {t e : TypeId} {p : Option Addr} {len cap : Nat} (ht : P.underlying t = some (.slice e)) (hx : ev σ x = .slice p len cap) :
    XO P σ w (.call ⟨.builtin .len, #[x], #[t]⟩) (iv (len : Int)) := fun _ _ _ _ _ => by
  simp [execOp, resolve, invoke, builtin, Builtin.len_, hx, run_underlying ht, goInt, iv, GI.toZ]
theorem X.len_str {t : TypeId} {l : List UInt8} (ht : P.underlying t = some .string) (hx : ev σ x = sv l) : XO P σ w (.call ⟨.builtin .len, #[x], #[t]⟩) (iv (lenI l)) := fun _ _ _ _ _ => by
  have h2 : (⟨l.toArray⟩ : ByteArray).size = l.length := by simp [ByteArray.size]
  simp [execOp, resolve, invoke, builtin, Builtin.len_, hx, run_underlying ht, goInt, iv, GI.toZ, lenI, h2]
theorem X.len_arr {t e : TypeId} {m : Nat} {v : Value} (ht : P.underlying t = some (.array m e)) (hx : ev σ x = v) : XO P σ w (.call ⟨.builtin .len, #[x], #[t]⟩) (iv (m : Int)) := fun _ _ _ _ _ => by
  simp [execOp, resolve, invoke, builtin, Builtin.len_, hx, run_underlying ht, goInt, iv, GI.toZ]
theorem X.min {T : Type} {k : IntKind} [GI T k] {ts : Array TypeId} {a b : T} (hx : ev σ x = iv a) (hy : ev σ y = iv b) : XO P σ w (.call ⟨.builtin .min, #[x, y], ts⟩) (iv (gmin a b)) := fun _ _ _ _ _ => by
  simp [execOp, resolve, invoke, builtin, Builtin.min_, Builtin.min2, hx, hy, gmin]
  split <;> rfl
theorem X.max {T : Type} {k : IntKind} [GI T k] {ts : Array TypeId} {a b : T} (hx : ev σ x = iv a) (hy : ev σ y = iv b) : XO P σ w (.call ⟨.builtin .max, #[x, y], ts⟩) (iv (gmax a b)) := fun _ _ _ _ _ => by
  simp [execOp, resolve, invoke, builtin, Builtin.max_, Builtin.max2, hx, hy, gmax]
  split <;> rfl
theorem X.makeFunc {f : FuncId} {cap : List Operand} {vs : List Value} (hc : cap.map (ev σ) = vs) : XO P σ w (.makeFunc (.func f) #[] cap.toArray) (.func (.func f) #[] vs.toArray) := fun _ _ _ _ _ => by
  simp [execOp, Instr.makeFunc, hc]
theorem X.nilCheck {a : Addr} (hx : ev σ x = .pointer (some a)) : XO P σ w (.nilCheck x) (.pointer (some a)) := fun _ _ _ _ _ => by simp [execOp, hx]
end

/-- Function f has a body, and is entered where it is called. -/
def Ent (P : Program) (f : FuncId) : Prop := ∀ (args : Array Value) (w : World), (callFunc f args).run P w = .ok (.enter f args) w
theorem Ent.mk {f : FuncId} {fn : Func} {c : Code} (hf : P.funcs[f]? = some fn) (hn : (fn.name == "runtime.NumGoroutine") = false) (hb : fn.body = some c) : Ent P f := fun args w => by
  have hn' : ¬ fn.name = "runtime.NumGoroutine" := by simpa using hn
  unfold callFunc
  show Sem.run P (Sem.bind (Sem.program Sem.pure) _) w = _
  simp only [Sem.bind, Sem.run, hf]
  simp [hn', hb]
/-- An operation that enters a function. -/
def XE (P : Program) (σ : Env) (w : World) (op : Op) (f : FuncId) (vs : Array Value) : Prop :=
  ∀ (d : Option Tmp) (ty : TypeId) (pos : String) (after : Array Edge) (g : Option (Nat × Bool)), (execOp (ev σ) ⟨d, op, ty, pos, after, g⟩).run P w = .ok (.enter f vs) w
theorem X.call {f : FuncId} {args : List Operand} {ts : Array TypeId} {vs : List Value} (he : Ent P f) (ha : args.map (ev σ) = vs) : XE P σ w (.call ⟨.value (.func f), args.toArray, ts⟩) f vs.toArray := fun _ _ _ _ _ => by
  have := he vs.toArray w
  simp [execOp, resolve, ev, Deferred.ofValue, invoke, ha, this]
theorem X.callv {f : FuncId} {g : Operand} {args : List Operand} {ts : Array TypeId} {vs cs : List Value} (he : Ent P f) (hg : ev σ g = .func (.func f) #[] cs.toArray) (ha : args.map (ev σ) = vs) :
    XE P σ w (.call ⟨.value g, args.toArray, ts⟩) f (vs ++ cs).toArray := fun _ _ _ _ _ => by
  have := he (vs ++ cs).toArray w
  simp [execOp, resolve, hg, Deferred.ofValue, invoke, ha, this]
theorem WL.e {op : Op} {f : FuncId} {vs : Array Value} {R1 : Ending → World → Prop} (hd : Nat.blt d n = true) (hx : XE P σ w op f vs) (hc : Calls P f vs w R1)
    (hr : ∀ e w', R1 e w' → ∃ r, e = .returned r ∧ WL P n ops rest K (upd σ d r) w') : WL P n ops (⟨some d, op, ty, pos, after, none⟩ :: rest) K σ w :=
  .enter rfl rfl hd (hx _ _ _ _ _) hc hr
theorem WL.ei {op : Op} {f : FuncId} {vs : Array Value} (hd : Nat.blt d n = true) (hx : XE P σ w op f vs)
    (hc : Calls P f vs w (fun e w' => ∃ r, e = .returned r ∧ WL P n ops rest K (upd σ d r) w')) : WL P n ops (⟨some d, op, ty, pos, after, none⟩ :: rest) K σ w :=
  .enter rfl rfl hd (hx _ _ _ _ _) hc (fun _ _ h => h)
end Go.Lv
