/- Slices of integers. -/
import Derived.Test.YtbacpdojepghaaaLvDraw
set_option linter.unusedVariables false
set_option linter.unusedSimpArgs false
namespace Go.Lv
variable {P : Program} {n : Nat} {ops : Array Oper} {rest : List Oper} {K : Env → World → Prop} {Q : Exit → Env → World → Prop} {σ : Env} {w : World}
variable {d : Nat} {ty : TypeId} {pos : String} {after : Array Edge} {A : Reg} {F : List Fact} {L : List Mob}

/-! ### the plain functions' steps -/
theorem bind_some {α β : Type} {o : Option α} {f : α → Option β} {y : β} (h : Option.bind o f = some y) : ∃ x, o = some x ∧ f x = some y := by
  cases o with
  | none => cases h
  | some x => exact ⟨x, rfl, h⟩
theorem getI_spec {α : Type} {l : List α} {i : Int} {x : α} (h : getI l i = some x) : i = (i.toNat : Int) ∧ i.toNat < l.length ∧ l[i.toNat]? = some x := by
  unfold getI at h
  split at h
  · exact ⟨by omega, (List.getElem?_eq_some_iff.1 h).1, h⟩
  · cases h
theorem setI_spec {α : Type} {l l' : List α} {i : Int} {x : α} (h : setI l i x = some l') : i = (i.toNat : Int) ∧ i.toNat < l.length ∧ l' = l.set i.toNat x := by
  unfold setI at h
  split at h
  · cases h; exact ⟨by omega, by omega, rfl⟩
  · cases h
theorem cutI_spec {α : Type} {l x : List α} {lo hi : Int} (h : cutI l lo hi = some x) : lo = (lo.toNat : Int) ∧ hi = (hi.toNat : Int) ∧ lo.toNat ≤ hi.toNat ∧ hi.toNat ≤ l.length ∧ x = (l.take hi.toNat).drop lo.toNat := by
  unfold cutI at h
  split at h
  · cases h; exact ⟨by omega, by omega, by omega, by omega, rfl⟩
  · cases h
theorem appI_spec {α : Type} {l m x : List α} (h : appI l m = some x) : l.length + m.length ≤ LIM ∧ x = l ++ m := by
  unfold appI at h
  split at h
  · cases h; exact ⟨by assumption, rfl⟩
  · cases h
theorem mkI_spec {α : Type} {i : Int} {z : α} {x : List α} (h : mkI i z = some x) : i = (i.toNat : Int) ∧ i.toNat ≤ LIM ∧ x = List.replicate i.toNat z := by
  unfold mkI at h
  split at h
  · rename_i hi
    cases h; exact ⟨by omega, by omega, rfl⟩
  · cases h
theorem okI_spec {b : Bool} {u : Unit} (h : okI b = some u) : b = true := by
  unfold okI at h
  split at h
  · assumption
  · cases h

theorem W.condP {α : Type} {c : Operand} {x y : Code} {t : Bool} {a b : Option α} {r : α} (hp : (if t = true then a else b) = some r) (hc : ev σ c = .bool t)
    (ht : t = true → a = some r → W P n x Q σ w) (hf : t = false → b = some r → W P n y Q σ w) : W P n (.cond c x y) Q σ w :=
  W.cond hc (fun h => ht h (by rw [if_pos h] at hp; exact hp)) (fun h => hf h (by rw [if_neg (by simp [h])] at hp; exact hp))
theorem W.tailJ {c : Code} (J : Env → World → Prop) (h : W P n c (Then J Q) σ w) (h2 : ∀ σ w, J σ w → Q .normal σ w) : W P n c Q σ w :=
  W.mono h fun e σ' w' hh => by cases e <;> first | exact h2 _ _ hh | exact hh

/-! ### facts and mobs put in order -/
theorem St.noF (hs : St A w F L) : St A w [] L := ⟨hs.lt, (fun _ h => by cases h), hs.mobs⟩
theorem St.asF (hs : St A w F L) {F' : List Fact} (h : ∀ f ∈ F', f ∈ F) : St A w F' L := ⟨hs.lt, fun f hf => hs.facts f (h f hf), hs.mobs⟩
theorem St.noM (hs : St A w F L) : St A w F [] := ⟨hs.lt, hs.facts, trivial⟩
theorem St.frontL (hs : St A w F L) {i : Nat} {m : Mob} {L' : List Mob} (hi : L[i]? = some m) (hL : m :: L.eraseIdx i = L') : St A w F L' := hL ▸ hs.front hi
theorem St.dropL (hs : St A w F L) {i : Nat} {m : Mob} {L' : List Mob} (hi : L[i]? = some m) (hL : L.eraseIdx i = L') : St A w F L' := hL ▸ (hs.front hi).dropM
theorem St.as (hs : St A w F L) {F' : List Fact} {L' : List Mob} (hF : F = F') (hL : L = L') : St A w F' L' := hF ▸ hL ▸ hs

/-! ### slices of integers -/
section
variable {T : Type} {k : IntKind} [GI T k]
theorem enc_get {l : List T} {i : Nat} {x : T} (h : l[i]? = some x) : (encL l)[i]? = some (iv x) := by simp [encL, h]
theorem enc_len (l : List T) : (encL l).length = l.length * 1 := by simp [encL]
theorem enc_set (l : List T) (i : Nat) (x : T) (h : i < l.length) : splice (encL l) i [iv x] = encL (l.set i x) := by
  rw [splice_one (by simpa [encL] using h)]; simp [encL, List.map_set]
theorem enc_one (l : List T) : (encL l).all (·.oneCell') = true := by simp [encL, Value.oneCell']
theorem X.lenR {x : Operand} {t e : TypeId} {R : Reg} {j : Nat} {v : Value} {l : List T} (ht : P.underlying t = some (.slice e)) (hs : St A w F L) (hF : F[j]? = some (.rd R 1 v (encL l))) (hx : ev σ x = v) :
    XO P σ w (.call ⟨.builtin .len, #[x], #[t]⟩) (iv (lenI l)) := X.len_rd ht hs hF (m := l.length) (enc_len l) (by decide) hx
theorem X.lenO {x : Operand} {t e E : TypeId} {j : Nat} {v : Value} {l : List T} (ht : P.underlying t = some (.slice e)) (hs : St A w F L) (hL : L[j]? = some (.own 1 E v (encL l))) (hx : ev σ x = v) :
    XO P σ w (.call ⟨.builtin .len, #[x], #[t]⟩) (iv (lenI l)) := X.len_own ht hs hL (m := l.length) (enc_len l) (by decide) hx
theorem X.len0 {x : Operand} {t e : TypeId} (ht : P.underlying t = some (.slice e)) (hx : ev σ x = .slice none 0 0) :
    XO P σ w (.call ⟨.builtin .len, #[x], #[t]⟩) (iv (0 : Int)) := X.len_slice ht hx
theorem X.idxR {t e : TypeId} {R : Reg} {j : Nat} {i : Int} {v : Value} {l : List T} {y : T} (ht : P.underlying t = some (.slice e)) (hsz : SizeIs P e 1) (hs : St A w F L) (hF : F[j]? = some (.rd R 1 v (encL l)))
    (hg : getI l i = some y) : ∃ pv, (∀ (σ : Env) (w : World) (x ix : Operand), ev σ x = v → ev σ ix = iv i → XO P σ w (.indexAddr t x ix) pv) ∧ St A w (.ptr R pv [iv y] :: F) L := by
  obtain ⟨h1, h2, h3⟩ := getI_spec hg
  obtain ⟨pv, h4, h5⟩ := X.index_rd (m := l.length) (i := i.toNat) ht hsz hs hF (enc_len l) (by decide) h2
  refine ⟨pv, fun σ w x ix hx hix => h4 σ w x ix hx (by rw [← h1]; exact hix), ?_⟩
  have e1 : ((encL l).drop (i.toNat * 1)).take 1 = [iv y] := by
    rw [Nat.mul_one]
    have := enc_get h3
    apply List.ext_getElem?
    intro q
    rw [List.getElem?_take, List.getElem?_drop]
    cases q with
    | zero => simpa using this
    | succ q => simp
  rw [e1] at h5; exact h5
theorem X.cutR {t e : TypeId} {R : Reg} {j : Nat} {v : Value} {l y : List T} {a b : Int} (ht : P.underlying t = some (.slice e)) (hsz : SizeIs P e 1) (hs : St A w F L)
    (hF : F[j]? = some (.rd R 1 v (encL l))) (hc : cutI l a b = some y) :
    ∃ p' l' c', (∀ (σ : Env) (w : World) (x : Operand) (lo hi : Option Operand), ev σ x = v → (lo.map (ev σ) = some (iv a) ∨ (lo = none ∧ a = 0)) → (hi.map (ev σ) = some (iv b) ∨ (hi = none ∧ b = lenI l)) → XO P σ w (.slice t x lo hi none) (.slice p' l' c')) ∧
      St A w (.rd R 1 (.slice p' l' c') (encL y) :: F) L := by
  obtain ⟨h1, h2, h3, h4, rfl⟩ := cutI_spec hc
  obtain ⟨p', l', c', h5, h6⟩ := X.slice_rd (m := l.length) (l := a.toNat) (k := b.toNat) ht hsz hs hF (enc_len l) (by decide) h3 h4
  refine ⟨p', l', c', fun σ w x lo hi hx hlo hhi => h5 σ w x lo hi hx (by rcases hlo with h | ⟨h, h'⟩; exact .inl (by rw [← h1]; exact h); exact .inr ⟨h, by omega⟩)
    (by rcases hhi with h | ⟨h, h'⟩; exact .inl (by rw [← h2]; exact h); exact .inr ⟨h, by rw [h']; simp [lenI]⟩), ?_⟩
  have e1 : ((encL l).take (b.toNat * 1)).drop (a.toNat * 1) = encL ((l.take b.toNat).drop a.toNat) := by simp [encL, List.map_drop, List.map_take]
  rw [e1] at h6; exact h6
/-- Indexing a slice of one's own: its block gets a name. -/
theorem St.idxO {E : TypeId} {j : Nat} {i : Int} {p : Option Addr} {m c : Nat} {l : List T} {y : T} {L' : Nat → List Mob} (hs : St A w F L) (hL : L[j]? = some (.own 1 E (.slice p m c) (encL l)))
    (hg : getI l i = some y) (hL' : ∀ b, L.set j (.at_ b 1 E m c (encL l)) = L' b) : ∃ b, p = some ⟨b, 0, none⟩ ∧ St A w F (L' b) := by
  obtain ⟨h1, h2, h3⟩ := getI_spec hg
  exact hs.rev hL (by simp [encL]; omega) hL'
theorem X.idxA {x ix : Operand} {t e E : TypeId} {j b m c : Nat} {i : Int} {l : List T} {y : T} (ht : P.underlying t = some (.slice e)) (hsz : SizeIs P e 1) (hs : St A w F L) (hL : L[j]? = some (.at_ b 1 E m c (encL l)))
    (hg : getI l i = some y) {p : Option Addr} (he : p = some ⟨b, 0, none⟩) (hx : ev σ x = .slice p m c) (hix : ev σ ix = iv i) : XO P σ w (.indexAddr t x ix) (.pointer (some ⟨b, i.toNat, none⟩)) := by
  subst he
  obtain ⟨h1, h2, h3⟩ := getI_spec hg
  have := X.index_at (P := P) (σ := σ) (i := i.toNat) ht hsz hs hL (k := l.length) (enc_len l) (by decide) h2 hx (by rw [← h1]; exact hix)
  rw [Nat.mul_one] at this; exact this
theorem St.hideP {E : TypeId} {i b s m c : Nat} {cs : List Value} {p : Option Addr} (hs : St A w F L) (he : p = some ⟨b, 0, none⟩) (hL : L[i]? = some (.at_ b s E m c cs)) : St A w F (L.set i (.own s E (.slice p m c) cs)) := by
  subst he; exact hs.hide hL
theorem X.loadA {x : Operand} {t E : TypeId} {j b m c : Nat} {i : Int} {l : List T} {y : T} (hs : St A w F L) (hL : L[j]? = some (.at_ b 1 E m c (encL l))) (ht : Plain P t) (hg : getI l i = some y)
    (hx : ev σ x = .pointer (some ⟨b, i.toNat, none⟩)) : XO P σ w (.load t x) (iv y) := X.load_at hs hL ht hx (enc_get (getI_spec hg).2.2)
theorem WL.storeA {a x : Operand} {t E : TypeId} {j b m c : Nat} {i : Int} {l l' : List T} {y : T} {L' : List Mob} (hs : St A w F L) (hL : L[j]? = some (.at_ b 1 E m c (encL l))) (hsz : SizeIs P t 1)
    (ha : ev σ a = .pointer (some ⟨b, i.toNat, none⟩)) (hx : ev σ x = iv y) (hg : setI l i y = some l') (hL' : L.set j (.at_ b 1 E m c (encL l')) = L') (h : ∀ w', St A w' F L' → WL P n ops rest K σ w') :
    WL P n ops (⟨none, .store t a x, ty, pos, after, none⟩ :: rest) K σ w := by
  obtain ⟨h1, h2, rfl⟩ := setI_spec hg
  exact WL.store_at hs hL hsz ha hx rfl rfl rfl (by simp [encL]; omega) (enc_set l _ y h2) hL' h
theorem WL.appO {x y : Operand} {t t2 e : TypeId} {i : Nat} {vx vy : Value} {l m r : List T} {L' : Option Addr → Nat → Nat → List Mob} (ht : P.underlying t = some (.slice e)) (ht2 : ∃ e2, P.underlying t2 = some (.slice e2)) (he : ElemOk P e 1)
    (hs : St A w F L) (hL : L[i]? = some (.own 1 e vx (encL l))) (hd : Nat.blt d n = true) (hx : ev σ x = vx) (hy : ev σ y = vy) (hyr : Rd (fun _ => True) w 1 vy (encL m)) (ha : appI l m = some r)
    (hL' : ∀ p q c, L.set i (.own 1 e (.slice p q c) (encL r)) = L' p q c) (h : ∀ p q c w', St A w' F (L' p q c) → WL P n ops rest K (upd σ d (.slice p q c)) w') :
    WL P n ops (⟨some d, .call ⟨.builtin .append, #[x, y], #[t, t2]⟩, ty, pos, after, none⟩ :: rest) K σ w := by
  obtain ⟨h1, rfl⟩ := appI_spec ha
  exact WL.append ht ht2 he hs hL hd hx hy hyr (enc_one m) (enc_len l) (enc_len m) h1 (fun p q c => by rw [← hL' p q c]; simp [encL]) h
theorem enc_flat (xs : List T) : ((xs.map fun x => (iv x : Value)).map (·.cells.toList)).flatten = encL xs := by
  induction xs with
  | nil => rfl
  | cons x xs ih => simp only [List.map_cons, List.flatten_cons, encL] at ih ⊢; rw [ih]; rfl
theorem WL.bsI {t e : TypeId} {len : Nat} {parts : List (Nat × Operand)} (xs : List T) (ht : P.underlying t = some (.slice e)) (he : ElemOk P e 1) (hs : St A w F L) (hd : Nat.blt d n = true)
    (hp : (parts.map fun p => (p.1, ev σ p.2)) = ((encL xs).zipIdx 0).map fun p => (p.2, p.1)) (hl : xs.length = len) (hlen : Nat.ble (len * 1) 4096 = true)
    (h : ∀ p l c w', St A w' F (.own 1 e (.slice p l c) (encL xs) :: L) → WL P n ops rest K (upd σ d (.slice p l c)) w') :
    WL P n ops (⟨some d, .buildSlice t len parts.toArray, ty, pos, after, none⟩ :: rest) K σ w :=
  WL.buildSlice (vs := encL xs) ht he hs hd hp (by simpa [encL] using hl) hlen (fun v hv => by simp only [encL, List.mem_map] at hv; obtain ⟨_, _, rfl⟩ := hv; rfl) (enc_flat xs) h
theorem WL.mkI {t e : TypeId} {lo co : Operand} {i : Int} {z : T} {r : List T} (ht : P.underlying t = some (.slice e)) (he : ElemOk P e 1) (hz : ∃ i, P.info? e = some i ∧ i.zero = some (iv z)) (hs : St A w F L)
    (hd : Nat.blt d n = true) (hl : ev σ lo = iv i) (hc : ev σ co = iv i) (hm : mkI i z = some r) (h : ∀ p l c w', St A w' F (.own 1 e (.slice p l c) (encL r) :: L) → WL P n ops rest K (upd σ d (.slice p l c)) w') :
    WL P n ops (⟨some d, .makeSlice t lo co, ty, pos, after, none⟩ :: rest) K σ w := by
  obtain ⟨h1, h2, rfl⟩ := mkI_spec hm
  refine WL.makeSlice (m := i.toNat) (zs := [iv z]) ht he hz rfl hs hd (by rw [← h1]; exact hl) (by rw [← h1]; exact hc) h2 (fun p l c w' hs' => h p l c w' ?_)
  have e1 : (List.replicate i.toNat [(iv z : Value)]).flatten = encL (List.replicate i.toNat z) := by
    generalize i.toNat = q
    induction q with
    | zero => rfl
    | succ q ih => simp only [List.replicate_succ, List.flatten_cons, encL, List.map_cons] at ih ⊢; rw [ih]; rfl
  rw [e1] at hs'; exact hs'
end
theorem St.rdT (hs : St A w F L) {j s : Nat} {R : Reg} {v : Value} {cs : List Value} (hF : F[j]? = some (.rd R s v cs)) : Rd (fun b => A b ∧ R b) w s v cs := hs.fact j hF
theorem Rd.any {R : Reg} {s : Nat} {v : Value} {cs : List Value} (h : Rd R w s v cs) : Rd (fun _ => True) w s v cs := h.step (fun _ _ => trivial) (fun _ _ => rfl)
theorem Rd.weak {R R' : Reg} {s : Nat} {v : Value} {cs : List Value} (h : Rd R w s v cs) (h' : ∀ b, R b → R' b) : Rd R' w s v cs := h.step h' (fun _ _ => rfl)
end Go.Lv
