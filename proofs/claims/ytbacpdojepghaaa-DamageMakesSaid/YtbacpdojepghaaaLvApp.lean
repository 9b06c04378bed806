/- Appending. -/
import Derived.Test.YtbacpdojepghaaaLvHeap2
import Derived.Laws.Append
set_option linter.unusedVariables false
set_option linter.unusedSimpArgs false
namespace Go.Lv
variable {P : Program} {n : Nat} {ops : Array Oper} {rest : List Oper} {K : Env → World → Prop} {σ : Env} {w : World}
variable {d : Nat} {ty : TypeId} {pos : String} {after : Array Edge} {A : Reg} {F : List Fact} {L : List Mob}

/-- What an append asks of the element's type. -/
structure ElemOk (P : Program) (e : TypeId) (s : Nat) : Prop where
  ok : ∃ i z, P.info? e = some i ∧ i.size = s ∧ i.zero = some z ∧ z.cells.size = s ∧ i.bytes ≤ 4096
  pos : 0 < s
theorem ElemOk.size {e : TypeId} {s : Nat} (h : ElemOk P e s) : SizeIs P e s := let ⟨i, _, h1, h2, _⟩ := h.ok; ⟨i, h1, h2⟩

theorem Rd.first {s len cap : Nat} {p : Option Addr} {cs : List Value} (h : Rd A w s (.slice p len cap) cs) {w2 : World} (hw : w2.heap = w.heap) :
    (Builtin.firstCells s len (.slice p len cap)).run P w2 = .ok cs.toArray w2 := by
  obtain ⟨p', len', cap', e, h2, h3, h4, h5⟩ := h
  cases e
  cases p with
  | none =>
    have := h4 rfl
    have : cs = [] := List.eq_nil_of_length_eq_zero (by rw [h2]; have : len = 0 := by omega
                                                        subst this; simp)
    subst this
    exact run_firstCells_none _ _ _ _ _
  | some a =>
    by_cases hc : 0 < cap
    · obtain ⟨b, off, arr, T, fr, e, hA, hb, hc', he⟩ := h5 hc
      cases e
      refine run_firstCells_some w2 s len _ len cap cs h2 (fun j v hj => ?_)
      have hjl : j < len * s := by rw [← h2]; exact (List.getElem?_eq_some_iff.1 hj).1
      rw [add_off, cell_of (by rw [hw]; exact hb), he j hjl, hj]
    · have hz : len = 0 := by omega
      have : cs = [] := List.eq_nil_of_length_eq_zero (by rw [h2, hz]; simp)
      subst this
      exact run_firstCells_some w2 s len _ len cap [] (by simp [hz]) (fun j v hj => by simp at hj)

theorem own_rd {o : Option Nat} {s : Nat} {E : TypeId} {v : Value} {cs : List Value} (h : (Mob.own s E v cs).holds o w) : Rd (fun b => o = some b) w s v cs := by
  obtain ⟨p, len, cap, h1, h2, h3, h4, h5, h6⟩ := h
  refine ⟨p, len, cap, h1, h2, h3, h4, fun hc => ?_⟩
  cases o with
  | none => have := h5 rfl; omega
  | some b =>
    obtain ⟨arr, fr, e1, e2, e3, e4, e5⟩ := h6 b rfl
    exact ⟨b, 0, arr, E, fr, e1, rfl, e2, by omega, fun i hi => by rw [Nat.zero_add]; exact e5 i hi⟩
theorem St.own_rd (hs : St A w F L) {j s : Nat} {E : TypeId} {v : Value} {cs : List Value} (hL : L[j]? = some (.own s E v cs)) : Rd (fun _ => True) w s v cs := by
  obtain ⟨o, h⟩ := Mobs.mem (A := A) hs.mobs hL
  exact (Go.Lv.own_rd h).step (fun _ _ => trivial) (fun _ _ => rfl)
theorem St.rd (hs : St A w F L) {j s : Nat} {R : Reg} {v : Value} {cs : List Value} (hF : F[j]? = some (.rd R s v cs)) : Rd (fun _ => True) w s v cs :=
  (show Rd _ w s v cs from hs.fact j hF).step (fun _ _ => trivial) (fun _ _ => rfl)

/-- One mob's block changed in place. -/
theorem St.setMob (hs : St A w F L) {i b : Nat} {m m' : Mob} {o : Obj} (hL : L[i]? = some m) (hm : ∀ q, m.holds q w → q = some b ∨ q = none → (q = some b)) (hb : ∀ q, m.holds q w → q = some b)
    (hm' : m'.holds (some b) (setBlk w b o)) : St A (setBlk w b o) F (L.set i m') := by
  have h1 := hs.front hL
  refine St.back hL ?_
  obtain ⟨q, hq, h3, h4⟩ := h1.mobs
  cases hb q hq
  have hsz : (setBlk w b o).heap.size = w.heap.size := by simp [setBlk]
  have hne : ∀ c, c ≠ b → (setBlk w b o).heap[c]? = w.heap[c]? := fun c hc => by
    simp [setBlk, Array.getElem?_setIfInBounds_ne (Ne.symm hc)]
  have hnA := (h3 b rfl).1
  refine ⟨fun c hc => by rw [hsz]; exact hs.lt c hc, fun f hf => f.step (hs.facts f hf) (fun _ h => h) (fun c hc => hne c (fun e => hnA (e ▸ hc))) ⟨by rw [hsz]; exact Nat.le_refl _, rfl, rfl, rfl⟩, some b, hm', fun c hc => ⟨(h3 c hc).1, by rw [hsz]; exact (h3 c hc).2⟩, ?_⟩
  refine h4.step (by rw [hsz]; exact Nat.le_refl _) (fun c _ hc => hne c (fun e => hc (.inr (by rw [e]))))
/-- The same, where the mob's block is known. -/
theorem St.setMobAt {i b : Nat} {m m' : Mob} {o : Obj} (hs : St A w F L) (hL : L[i]? = some m) (hm : m.holds (some b) w) (hm' : m'.holds (some b) (setBlk w b o))
    (hq : Mobs w A (m :: L.eraseIdx i) → ∃ q, m.holds q w ∧ (∀ c, q = some c → ¬ A c ∧ c < w.heap.size) ∧ Mobs w (fun c => A c ∨ q = some c) (L.eraseIdx i) ∧ q = some b) : St A (setBlk w b o) F (L.set i m') := by
  have h1 := hs.front hL
  refine St.back hL ?_
  obtain ⟨q, _, h3, h4, rfl⟩ := hq h1.mobs
  have hsz : (setBlk w b o).heap.size = w.heap.size := by simp [setBlk]
  have hne : ∀ c, c ≠ b → (setBlk w b o).heap[c]? = w.heap[c]? := fun c hc => by
    simp [setBlk, Array.getElem?_setIfInBounds_ne (Ne.symm hc)]
  have hnA := (h3 b rfl).1
  refine ⟨fun c hc => by rw [hsz]; exact hs.lt c hc, fun f hf => f.step (hs.facts f hf) (fun _ h => h) (fun c hc => hne c (fun e => hnA (e ▸ hc))) ⟨by rw [hsz]; exact Nat.le_refl _, rfl, rfl, rfl⟩, some b, hm', fun c hc => ⟨(h3 c hc).1, by rw [hsz]; exact (h3 c hc).2⟩, ?_⟩
  refine h4.step (by rw [hsz]; exact Nat.le_refl _) (fun c _ hc => hne c (fun e => hc (.inr (by rw [e]))))
/-- A mob replaced by one in a new block. -/
theorem St.newFor (hs : St A w F L) {i : Nat} {m m' : Mob} {o : Obj} (hL : L[i]? = some m) (hm' : m'.holds (some w.heap.size) (newBlk w o)) : St A (newBlk w o) F (L.set i m') :=
  St.back hL ((hs.front hL).dropM.newMob o m' hm')
theorem St.drewn (hs : St A w F L) : St A w.drew F L := hs.keep ⟨fun _ _ => rfl, Nat.le_refl _, rfl, rfl, rfl⟩
/-- A mob that needs no block any more, or another word for the same. -/
theorem St.renameMob (hs : St A w F L) {i : Nat} {m m' : Mob} (hL : L[i]? = some m) (hm : ∀ q, m.holds q w → ∃ q', m'.holds q' w ∧ (q' = q ∨ q' = none)) : St A w F (L.set i m') := by
  have h1 := hs.front hL
  refine St.back hL ⟨hs.lt, hs.facts, ?_⟩
  obtain ⟨q, hq, h3, h4⟩ := h1.mobs
  obtain ⟨q', hq', h⟩ := hm q hq
  refine ⟨q', hq', fun b hb => ?_, h4.anti ?_⟩
  · rcases h with rfl | rfl
    · exact h3 b hb
    · cases hb
  · rcases h with rfl | rfl
    · exact fun _ h => h
    · exact fun b hb => hb.elim .inl (fun h => by cases h)

theorem append_own {x y : Operand} {t t2 e : TypeId} {s i lx ly : Nat} {vx vy : Value} {cs ys : List Value} (ht : P.underlying t = some (.slice e)) (ht2 : ∃ e2, P.underlying t2 = some (.slice e2)) (he : ElemOk P e s)
    (hs : St A w F L) (hL : L[i]? = some (.own s e vx cs)) (hy : Rd (fun _ => True) w s vy ys) (h1 : ys.all (·.oneCell') = true) (hlx : cs.length = lx * s) (hly : ys.length = ly * s) (hlim : lx + ly ≤ LIM) :
    ∃ v' w', (Builtin.append_ #[t, t2] ty #[vx, vy]).run P w = .ok v' w' ∧ St A w' F (L.set i (.own s e v' (cs ++ ys))) := by
  have hfr := hs.front hL
  obtain ⟨o, hown, _, _⟩ := hfr.mobs
  have hxr := Go.Lv.own_rd hown
  obtain ⟨p, len, cap, rfl, h2, h3, h4, h5, h6⟩ := hown
  obtain ⟨py, leny, capy, rfl, g2, g3, g4, g5⟩ := hy
  have hy' : Rd (fun _ => True) w s (.slice py leny capy) ys := ⟨py, leny, capy, rfl, g2, g3, g4, g5⟩
  obtain ⟨ti, z, hi, hsz, hz, hzs, hby⟩ := he.ok
  obtain ⟨e2, ht2⟩ := ht2
  have e1 : len = lx := Nat.eq_of_mul_eq_mul_right he.pos (h2.symm.trans hlx)
  have e2' : leny = ly := Nat.eq_of_mul_eq_mul_right he.pos (g2.symm.trans hly)
  subst e1; subst e2'; subst hsz
  have hLIM : LIM = 17179869184 := rfl
  rw [hLIM] at hlim
  by_cases hroom : len + leny ≤ cap
  · by_cases hn : leny = 0
    · -- nothing is put behind it
      subst hn
      have hys : ys = [] := List.eq_nil_of_length_eq_zero (by simpa using g2)
      subst hys
      have hf := hy'.first (P := P) (w2 := w) rfl
      refine ⟨.slice p len cap, w, ?_, ?_⟩
      · cases p <;> simp [Builtin.append_, run_underlying ht, run_underlying ht2, sizeOf, typeInfo, hi, Builtin.lenOf, hf, h3, storeCells]
      · rw [List.append_nil]
        have : L.set i (.own ti.size e (.slice p len cap) cs) = L := by
          apply List.ext_getElem?; intro j
          by_cases hj : i = j
          · subst hj; rw [List.getElem?_set_self' ]; simp [hL]
          · rw [List.getElem?_set_ne hj]
        rw [this]; exact hs
    · -- there is room
      cases o with
      | none => have := h5 rfl; omega
      | some b =>
        obtain ⟨arr, fr, rfl, hb, hsz', hfz, hcells⟩ := h6 b rfl
        have hf := hy'.first (P := P) (w2 := w) rfl
        have hst := run_storeCells_blk (P := P) b e fr ys (len * ti.size) 0 arr.toList w (by simpa using hb)
          (by have := Nat.mul_le_mul_right ti.size hroom; rw [Nat.add_mul] at this; simp; omega) (by simp; rcases hfz with h | h; exact .inr (.inr h); exact .inr (.inl h)) (fun v hv => List.all_eq_true.1 h1 v hv)
        refine ⟨.slice (some ⟨b, 0, none⟩) (len + leny) cap, setBlk w b (.cells (splice arr.toList (len * ti.size) ys).toArray e fr), ?_, ?_⟩
        · simp [Builtin.append_, run_underlying ht, run_underlying ht2, sizeOf, typeInfo, hi, Builtin.lenOf, hf, hroom, add_off] at hst ⊢
          simp [hst]
        · have hbl := lt_of_heap hb
          have hal : arr.toList.length = arr.size := by simp
          have hcle : len * ti.size + leny * ti.size ≤ arr.toList.length := by
            have := Nat.mul_le_mul_right ti.size hroom; rw [Nat.add_mul] at this; simp; omega
          refine hs.setMobAt hL (b := b) ⟨_, len, cap, rfl, h2, h3, h4, h5, h6⟩ ?_ ?_
          · refine ⟨_, len + leny, cap, rfl, by rw [List.length_append, Nat.add_mul]; omega, hroom, by simp, by simp, fun b' hb' => ?_⟩
            cases hb'
            refine ⟨(splice arr.toList (len * ti.size) ys).toArray, fr, rfl, by simp [setBlk, hbl], ?_, ?_, fun j hj => ?_⟩
            · simp only [List.size_toArray]; rw [splice_length (by omega)]; simpa using hsz'
            · simp only [List.size_toArray]; rw [splice_length (by omega)]; simpa using hfz
            · rw [Nat.add_mul] at hj
              simp only [List.getElem?_toArray, splice, List.getElem?_append, List.length_take]
              by_cases hj1 : j < len * ti.size
              · rw [if_pos (by omega), if_pos (by omega), List.getElem?_take, if_pos hj1]
                have := hcells j hj1
                simpa using this
              · have hmin : min (len * ti.size) arr.toList.length = len * ti.size := by omega
                rw [hmin, if_neg hj1, if_neg (show ¬ j < cs.length by omega), if_pos (show j - len * ti.size < ys.length by omega), h2]
          · rintro ⟨q, hq, q1, q2⟩
            refine ⟨q, hq, q1, q2, ?_⟩
            obtain ⟨_, _, _, eq, _, _, _, k5, k6⟩ := hq
            cases q with
            | none => cases eq; have := k5 rfl; omega
            | some c => obtain ⟨_, _, k7, _⟩ := k6 c rfl; cases eq; cases k7; rfl
  · -- a new row
    have hf := hy'.first (P := P) (w2 := w.drew) rfl
    have hfo := hxr.first (P := P) (w2 := w.drew) rfl
    have h63' : ¬ (9223372036854775807 < ((len : Int) + (leny : Int))) := by omega
    have hbb : (len + leny) * ti.bytes ≤ 140737488355328 := by
      have := Nat.mul_le_mul hlim hby; omega
    have h48' : ¬ (281474976710656 < Builtin.nextslicecap (len + leny) cap * ti.bytes) := by
      have := growslice_fits (by omega : cap < len + leny) hbb; omega
    have hge : len + leny ≤ grownCap w (len + leny) cap e := by simp [grownCap, Question.cut]
    refine ⟨.slice (some ⟨w.heap.size, 0, none⟩) (len + leny) (grownCap w (len + leny) cap e),
      newBlk w.drew (.cells (cs ++ ys ++ (Builtin.zeroCells z.cells (grownCap w (len + leny) cap e - (len + leny))).toList).toArray e), ?_, ?_⟩
    · have harr : ∀ (a b : List Value) (zz : Array Value), (a ++ b ++ zz.toList).toArray = a.toArray ++ (b.toArray ++ zz) := fun a b zz => by
        apply Array.ext'; simp
      rw [harr]
      simp [Builtin.append_, run_underlying ht, run_underlying ht2, sizeOf, typeInfo, zeroValue, hi, hz, Builtin.lenOf, hroom, h63', h48', Question.forced, hf, hfo, newRow, newObj, grownCap]
      simp only [Sem.run, Result.andThen_ok]
      simp [newBlk]
    · refine hs.drewn.newFor hL ⟨_, len + leny, _, rfl, by rw [List.length_append, Nat.add_mul]; omega, hge, by simp, by simp, fun b hb => ?_⟩
      cases hb
      refine ⟨_, (0, 0), rfl, newBlk_new _ _, ?_, .inl (Nat.le_refl _), fun j hj => ?_⟩
      · have : (Builtin.zeroCells z.cells (grownCap w (len + leny) cap e - (len + leny))).size = (grownCap w (len + leny) cap e - (len + leny)) * ti.size := by simp [Builtin.zeroCells, hzs]
        simp only [List.size_toArray, List.length_append, Array.length_toList, this, h2, g2, Nat.sub_mul]
        have := Nat.mul_le_mul_right ti.size hge
        rw [Nat.add_mul] at this ⊢
        omega
      · rw [Nat.add_mul] at hj
        simp only [List.getElem?_toArray]
        rw [List.getElem?_append_left (by simp; omega)]
end Go.Lv
