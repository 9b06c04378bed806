/- Bytes and strings; places of one's own slices. -/
import Derived.Test.YtbacpdojepghaaaLvCall
import Derived.Laws.IdiomStrings
set_option linter.unusedVariables false
set_option linter.unusedSimpArgs false
namespace Go.Lv
variable {P : Program} {n : Nat} {ops : Array Oper} {rest : List Oper} {K : Env → World → Prop} {σ : Env} {w : World}
variable {d : Nat} {ty : TypeId} {pos : String} {after : Array Edge} {A : Reg} {F : List Fact} {L : List Mob}

/-- The bytes of a list, as cells. -/
@[reducible] def encL {T : Type} {k : IntKind} [GI T k] (l : List T) : List Value := l.map iv
theorem iv_u8 (b : UInt8) : iv b = .int .u8 (b.toNat : Int) := rfl
theorem X.b2s {x : Operand} {s t e : TypeId} {R : Reg} {v : Value} {l : List UInt8} (hs' : P.underlying s = some (.slice e)) (he : P.underlying e = some (.int .u8)) (ht : P.underlying t = some .string)
    (hr : Rd R w 1 v (encL l)) (hx : ev σ x = v) : XO P σ w (.convert s t x) (sv l) := fun _ _ _ _ _ => by
  obtain ⟨p, len, cap, rfl, h2, h3, h4, h5⟩ := hr
  have hlen : l.length = len := by simpa [encL] using h2
  subst hlen
  have hrun : (convert s t (.slice p l.length cap)).run P w = .ok (sv l) w := by
    cases p with
    | none =>
      have := h4 rfl
      have : l = [] := List.eq_nil_of_length_eq_zero (by omega)
      subst this
      rw [run_convert_bytes_string w s t e none _ _ hs' he ht]; rfl
    | some a =>
      refine run_convert_bytes_back w s t e a cap l hs' he ht (fun j hj => ?_)
      obtain ⟨b, off, arr, T, fr, e1, _, e2, _, e3⟩ := h5 (by omega)
      cases e1
      rw [add_off, cell_of e2, e3 j (by omega)]
      simp [encL, hj, iv_u8]
  simp only [execOp, hx, Sem.run_bind, hrun, Result.andThen_ok, Sem.run_pure]
/-- A string's bytes, in new memory. -/
theorem WL.s2b {x : Operand} {s t e : TypeId} {l : List UInt8} (hs' : P.underlying s = some .string) (ht : P.underlying t = some (.slice e)) (he : P.underlying e = some (.int .u8)) (hs : St A w F L)
    (hd : Nat.blt d n = true) (hx : ev σ x = sv l) (h : ∀ p m c w', St A w' F (.own 1 e (.slice p m c) (encL l) :: L) → WL P n ops rest K (upd σ d (.slice p m c)) w') :
    WL P n ops (⟨some d, .convert s t x, ty, pos, after, none⟩ :: rest) K σ w := by
  have hr := run_bytes_of_string (P := P) w s t e ⟨l.toArray⟩ hs' ht he
  have hsz : (⟨l.toArray⟩ : ByteArray).size = l.length := by simp [ByteArray.size]
  have hge : l.length ≤ grownCap w (⟨l.toArray⟩ : ByteArray).size 0 e := by rw [hsz]; simp [grownCap, Question.cut]
  generalize hcap : grownCap w (⟨l.toArray⟩ : ByteArray).size 0 e = cap at hr hge
  have hw : (w.drew.alloc (.cells (bytesRow ⟨l.toArray⟩ cap) e ((bytesRow ⟨l.toArray⟩ cap).size, (bytesRow ⟨l.toArray⟩ cap).size + 1))) = newBlk w.drew (.cells (bytesRow ⟨l.toArray⟩ cap) e ((bytesRow ⟨l.toArray⟩ cap).size, (bytesRow ⟨l.toArray⟩ cap).size + 1)) := rfl
  rw [hw] at hr
  refine .val rfl rfl hd (v := .slice (some ⟨w.heap.size, 0, none⟩) l.length cap) (w' := newBlk w.drew (.cells (bytesRow ⟨l.toArray⟩ cap) e ((bytesRow ⟨l.toArray⟩ cap).size, (bytesRow ⟨l.toArray⟩ cap).size + 1))) ?_ (h _ _ _ _ (hs.drewn.newMob _ _ ⟨_, l.length, cap, rfl, by simp [encL], hge, by simp, by simp, fun b hb => ?_⟩))
  · rw [hsz] at hr
    simp only [execOp, hx, Sem.run_bind, hr, Result.andThen_ok, Sem.run_pure]
  · cases hb
    refine ⟨_, _, rfl, newBlk_new _ _, ?_, .inr (Nat.le_refl _), fun i hi => ?_⟩
    · simp [bytesRow]; omega
    · have hi' : i < l.length := by omega
      simp only [bytesRow]
      rw [Array.getElem?_append_left (by simp; omega)]
      simp [encL, hi', iv_u8]

/-! ### a slice of one's own, element by element -/
/-- A slice of one's own whose block has a name. -/
def Mob.at_ (b s : Nat) (E : TypeId) (m c : Nat) (cs : List Value) : Mob where
  holds o w := o = some b ∧ (Mob.own s E (.slice (some ⟨b, 0, none⟩) m c) cs).holds o w
  step h hs := ⟨h.1, (Mob.own s E _ cs).step h.2 hs⟩
theorem St.reveal (hs : St A w F L) {i s : Nat} {E : TypeId} {v : Value} {cs : List Value} (hL : L[i]? = some (.own s E v cs)) (hne : 0 < cs.length) :
    ∃ b m c, v = .slice (some ⟨b, 0, none⟩) m c ∧ St A w F (L.set i (.at_ b s E m c cs)) := by
  obtain ⟨o, ⟨p, len, cap, rfl, h2, h3, h4, h5, h6⟩, _, _⟩ := (hs.front hL).mobs
  have hlen : 0 < len := by
    rcases Nat.eq_zero_or_pos len with h | h
    · rw [h, Nat.zero_mul] at h2; omega
    · exact h
  cases o with
  | none => have := h5 rfl; omega
  | some b =>
    obtain ⟨arr, fr, rfl, _⟩ := h6 b rfl
    refine ⟨b, len, cap, rfl, hs.renameMob hL (fun q hq => ⟨q, ?_, .inl rfl⟩)⟩
    refine ⟨?_, hq⟩
    obtain ⟨_, _, _, e, _, _, _, k5, k6⟩ := hq
    cases e
    cases q with
    | none => have := k5 rfl; omega
    | some b' => obtain ⟨_, _, e, _⟩ := k6 b' rfl; cases e; rfl
theorem St.rev (hs : St A w F L) {i s : Nat} {E : TypeId} {p : Option Addr} {l c : Nat} {cs : List Value} {L' : Nat → List Mob} (hL : L[i]? = some (.own s E (.slice p l c) cs)) (hne : 0 < cs.length) (hL' : ∀ b, L.set i (.at_ b s E l c cs) = L' b) :
    ∃ b, p = some ⟨b, 0, none⟩ ∧ St A w F (L' b) := by
  obtain ⟨b, m, cc, e, h⟩ := hs.reveal hL hne
  cases e
  exact ⟨b, rfl, hL' b ▸ h⟩
theorem St.hide (hs : St A w F L) {i b s m c : Nat} {E : TypeId} {cs : List Value} (hL : L[i]? = some (.at_ b s E m c cs)) : St A w F (L.set i (.own s E (.slice (some ⟨b, 0, none⟩) m c) cs)) :=
  hs.renameMob hL (fun q hq => ⟨q, hq.2, .inl rfl⟩)
theorem X.index_at {x ix : Operand} {t e E : TypeId} {s j b m c k i : Nat} {cs : List Value} (ht : P.underlying t = some (.slice e)) (hsz : SizeIs P e s) (hs : St A w F L) (hL : L[j]? = some (.at_ b s E m c cs))
    (hl : cs.length = k * s) (hp : 0 < s) (hi : i < k) (hx : ev σ x = .slice (some ⟨b, 0, none⟩) m c) (hix : ev σ ix = iv (i : Int)) : XO P σ w (.indexAddr t x ix) (.pointer (some ⟨b, i * s, none⟩)) := fun _ _ _ _ _ => by
  obtain ⟨o, h1, h2⟩ := Mobs.mem (A := A) hs.mobs hL
  obtain ⟨_, _, _, e, h3, _⟩ := h2
  cases e
  have hm : m = k := Nat.eq_of_mul_eq_mul_right hp (h3.symm.trans hl)
  subst hm
  have h6 : (0 : Int) ≤ i ∧ (i : Int) < m := by omega
  simp only [execOp, hx, hix, iv, GI.toZ, Instr.indexAt, Sem.run_bind, asIntOf, Sem.run_pure, Result.andThen_ok, run_underlying ht, h6, and_self, if_true, run_sizeOf_of hsz, add_off, Int.toNat_natCast, Nat.zero_add]
theorem X.load_at {x : Operand} {t E : TypeId} {s j b m c k : Nat} {v : Value} {cs : List Value} (hs : St A w F L) (hL : L[j]? = some (.at_ b s E m c cs)) (ht : Plain P t) (hx : ev σ x = .pointer (some ⟨b, k, none⟩)) (hv : cs[k]? = some v) :
    XO P σ w (.load t x) v := fun _ _ _ _ _ => by
  obtain ⟨u, hu, hp⟩ := ht
  obtain ⟨o, rfl, h2⟩ := Mobs.mem (A := A) hs.mobs hL
  obtain ⟨_, len, cap, e, h3, _, _, _, h6⟩ := h2
  obtain ⟨arr, fr, _, hb, _, _, hc⟩ := h6 b rfl
  have hk : k < cs.length := (List.getElem?_eq_some_iff.1 hv).1
  have hc' : w.cell? ⟨b, k, none⟩ = some v := by rw [cell_of hb, hc k (by omega), hv]
  simp only [execOp, hx, Instr.loadAt, Instr.sureAddr, Sem.run_bind, Sem.run_pure, Result.andThen_ok, loadVar, run_isAgg_of hu hp, Bool.false_eq_true, if_false, run_load_cell hc']
theorem WL.store_at {a x : Operand} {t E : TypeId} {s j b m c k q : Nat} {v : Value} {cs cs' vs : List Value} {L' : List Mob} (hs : St A w F L) (hL : L[j]? = some (.at_ b s E m c cs)) (hsz : SizeIs P t q)
    (ha : ev σ a = .pointer (some ⟨b, k, none⟩)) (hx : ev σ x = v) (hv : v.cells = vs.toArray) (hl : vs.length = q) (h1 : vs.all (·.oneCell') = true) (hle : k + q ≤ cs.length)
    (hc : splice cs k vs = cs') (hL' : L.set j (.at_ b s E m c cs') = L') (h : ∀ w', St A w' F L' → WL P n ops rest K σ w') :
    WL P n ops (⟨none, .store t a x, ty, pos, after, none⟩ :: rest) K σ w := by
  obtain ⟨o, ho, _, _⟩ := (hs.front hL).mobs
  obtain ⟨rfl, ho⟩ := ho
  have ho' := ho
  obtain ⟨_, len, cap, e, h3, h4, h5, h5', h6⟩ := ho
  cases e
  obtain ⟨arr, fr, e, hb, hsz', hfz, hcells⟩ := h6 b rfl
  have hcl : cs.length ≤ arr.size := by rw [h3, hsz']; exact Nat.mul_le_mul_right _ h4
  have hr := run_storeCells_blk (P := P) b E fr vs k 0 arr.toList w (by simpa using hb) (by simp; omega) (by simp; rcases hfz with h | h; exact .inr (.inr h); exact .inr (.inl h)) (fun v hv => by simpa using List.all_eq_true.1 h1 v hv)
  simp only [Nat.add_zero] at hr
  have hbl := lt_of_heap hb
  have hcs' : cs'.length = cs.length := by rw [← hc]; exact splice_length (by omega)
  have hget : ∀ i, i < m * s → (splice arr.toList k vs)[i]? = cs'[i]? := fun i hi => by
    rw [← hc]
    have hmin1 : min k arr.toList.length = k := by simp; omega
    have hmin2 : min k cs.length = k := by omega
    simp only [splice, List.getElem?_append, List.length_take, hmin1, hmin2, List.getElem?_take, List.getElem?_drop]
    by_cases h1 : i < k
    · rw [if_pos h1, if_pos h1, if_pos h1, if_pos h1]; simpa using hcells i hi
    · rw [if_neg h1, if_neg h1]
      by_cases h2 : i - k < vs.length
      · rw [if_pos h2, if_pos h2]
      · rw [if_neg h2, if_neg h2]
        have e1 : k + vs.length + (i - k - vs.length) = i := by omega
        rw [e1]; simpa using hcells i hi
  refine .unit rfl rfl (w' := setBlk w b (.cells (splice arr.toList k vs).toArray E fr)) ?_ (h _ (hL' ▸ hs.setMobAt hL (b := b) ⟨rfl, ho'⟩ ⟨rfl, _, m, c, rfl, by rw [hcs', h3], h4, h5, h5', fun b' hb' => ?_⟩ ?_))
  · simp [execOp, ha, hx, Instr.storeAt, Instr.sureAddr, storeVar, run_sizeOf_of hsz, hv, hl, hr]
  · cases hb'
    refine ⟨(splice arr.toList k vs).toArray, fr, rfl, by simp [setBlk, hbl], ?_, ?_, fun i hi => ?_⟩
    · simp only [List.size_toArray]; rw [splice_length (by simp; omega)]; simpa using hsz'
    · simp only [List.size_toArray]; rw [splice_length (by simp; omega)]; simpa using hfz
    · simpa using hget i hi
  · rintro ⟨q, hq, q1, q2⟩
    exact ⟨q, hq, q1, q2, hq.1⟩
theorem splice_one {cells : List Value} {k : Nat} {v : Value} (h : k < cells.length) : splice cells k [v] = cells.set k v := by
  have := splice_cons (cells := cells) (off := k) (v := v) (vs := []) (by simp; omega)
  rw [splice_nil] at this
  exact this.symm
theorem flat_rep (zs : List Value) (s : Nat) (hz : zs.length = s) (hp : 0 < s) : ∀ (m i : Nat), i < m * s → ((List.replicate m zs).flatten)[i]? = zs[i % s]?
  | 0, i, h => by simp at h
  | m + 1, i, h => by
    rw [List.replicate_succ, List.flatten_cons, List.getElem?_append]
    by_cases hi : i < zs.length
    · rw [if_pos hi, Nat.mod_eq_of_lt (by omega)]
    · rw [if_neg hi, hz, flat_rep zs s hz hp m (i - s) (by rw [Nat.succ_mul] at h; omega)]
      congr 1
      conv => rhs; rw [show i = (i - s) + s by omega, Nat.add_mod_right]
/-- A slice with zeros in it. -/
theorem WL.makeSlice {t e : TypeId} {lo co : Operand} {s m : Nat} {z : Value} {zs : List Value} (ht : P.underlying t = some (.slice e)) (he : ElemOk P e s) (hz : ∃ i, P.info? e = some i ∧ i.zero = some z) (hzs : z.cells = zs.toArray) (hs : St A w F L)
    (hd : Nat.blt d n = true) (hl : ev σ lo = iv (m : Int)) (hc : ev σ co = iv (m : Int)) (hlim : m ≤ LIM) (h : ∀ p l c w', St A w' F (.own s e (.slice p l c) ((List.replicate m zs).flatten) :: L) → WL P n ops rest K (upd σ d (.slice p l c)) w') :
    WL P n ops (⟨some d, .makeSlice t lo co, ty, pos, after, none⟩ :: rest) K σ w := by
  obtain ⟨ti, hi, hz⟩ := hz
  obtain ⟨ti', z', hi', hsz, hz', hzz, hby⟩ := he.ok
  rw [hi] at hi'; cases hi'
  rw [hz] at hz'; cases hz'
  have hzl : zs.length = s := by have := congrArg Array.size hzs; simp at this; omega
  have hLIM : LIM = 17179869184 := rfl
  rw [hLIM] at hlim
  have hmb : m * ti.bytes ≤ 70368744177664 := by have := Nat.mul_le_mul hlim hby; omega
  have hw : IntKind.i64.wrap (m : Int) = m := by
    have := wrap64_id (n := (m : Int)) (by omega) (by omega); exact this
  have hcells : ∀ z0 : Array Value, (z0 = zs.toArray ∨ m * s = 0) → ((Array.range (m * s)).map fun x => z0[x % z0.size]!) = ((List.replicate m zs).flatten).toArray := by
    intro z0 h0
    apply Array.ext'
    apply List.ext_getElem?
    intro i
    simp only [Array.toList_map, Array.toList_range, List.getElem?_map]
    by_cases hi : i < m * s
    · rcases h0 with rfl | h0
      · rw [flat_rep zs s hzl he.pos m i hi, List.getElem?_range hi]
        have : i % s < zs.length := by rw [hzl]; exact Nat.mod_lt _ he.pos
        rw [List.getElem?_eq_getElem this]
        simp [hzl, List.getElem?_eq_getElem this]
      · omega
    · have e1 : ((List.replicate m zs).flatten).length = m * s := by simp [hzl]
      rw [List.getElem?_eq_none (by simpa using hi), List.getElem?_eq_none (by rw [e1]; omega)]
      rfl
  have e1 : ((List.replicate m zs).flatten).length = m * s := by simp [hzl]
  have hzv : (zeroValue e).run P w = .ok z w := by simp [zeroValue, typeInfo, hi, hz]
  have hsz' := run_sizeOf_of (P := P) he.size w
  have hti : (typeInfo e).run P w = .ok ti w := by simp [typeInfo, hi]
  have hask : ∀ b : Nat, (askRoom b).run P w = .ok () w := fun b => by unfold askRoom; split <;> rfl
  have hrun : (newRow e ((List.replicate m zs).flatten).toArray).run P w = .ok ⟨w.heap.size, 0, none⟩ (newBlk w (.cells ((List.replicate m zs).flatten).toArray e)) := rfl
  refine .val rfl rfl hd (v := .slice (some ⟨w.heap.size, 0, none⟩) m m) (w' := newBlk w (.cells ((List.replicate m zs).flatten).toArray e)) ?_ (h _ _ _ _ (hs.newMob _ _ ⟨_, m, m, rfl, e1, Nat.le_refl _, by simp, by simp, fun b hb => ?_⟩))
  · have c1 : (decide ((m : Int) < 0) || decide ((ti.bytes : Int) * m > 2 ^ 48)) = false := by
      have h3 : (ti.bytes : Int) * m ≤ 70368744177664 := by
        have h := Int.ofNat_le.2 hmb
        rw [Int.natCast_mul, Int.mul_comm] at h
        exact h
      have h4 : ¬ ((m : Int) < 0) := by omega
      have h5 : ¬ ((ti.bytes : Int) * m > 2 ^ 48) := by
        have : (2 : Int) ^ 48 = 281474976710656 := rfl
        rw [this]; omega
      rw [decide_eq_false h4, decide_eq_false h5]; rfl
    simp only [execOp, Instr.makeSlice, hl, hc, iv, GI.toZ, Sem.run_bind, run_underlying ht, Result.andThen_ok, asInt, asIntOf, Sem.run_pure, hti, hw, c1]
    simp only [Bool.false_or, Bool.not_false, Bool.not_true, Bool.false_eq_true, if_false]
    rw [if_neg (by simp)]
    simp only [Sem.run_bind, hask, Result.andThen_ok, hsz', Int.toNat_natCast]
    split
    · rename_i h0
      simp only [Sem.run_bind, Sem.run_pure, Result.andThen_ok, hcells #[] (.inr h0), hrun]
    · simp only [Sem.run_bind, Sem.run_pure, hzv, Result.andThen_ok, hzs, hcells zs.toArray (.inl rfl), hrun]
  · cases hb
    exact ⟨_, (0, 0), rfl, newBlk_new _ _, by simpa using e1, .inl (Nat.le_refl _), fun i hi => by simp⟩
end Go.Lv
