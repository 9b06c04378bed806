/- A part of the proof of a statement of this seat (see the text that ends in Proof): RxOp1, RxSt, RxPath, RxOp2, RxOp3, RxOp4, RxOp5, RxOp6, RxCon, RxCall, RxU, RxBnd, RxOps, RxD, RxCut, RxMain. No conditions of its own. -/
import Derived.Test.YtneipcijjnibdaaGreatDoorCpBA
set_option linter.unusedVariables false
set_option linter.unusedSimpArgs false
namespace Go.Rx
open Go Go.Lv
variable {P : Program} {B : Reg} {w : World} {L : List MD} {s : S} {σs : List Env} {σ : Env} {Z : Fix} {A : Reg}
theorem Afu : ∀ {it : List Item} {i : Nat} {a : Item}, Bb it i = a → a ≠ .dead → it[i]? = some a
 | [], _, a, h, hd => absurd h.symm (by simpa [Bb] using hd)
 | b :: r, 0, a, h, _ => by simpa [Bb] using h
 | b :: r, i + 1, a, h, hd => by simpa using Afu (it := r) (by simpa [Bb] using h) hd
theorem MemR.item (hm : MemR B w L s σs σ) {i : Nat} {a : Item} (h : Bb s.it i = a) (hd : a ≠ .dead) : ∃ md, L[i]? = some md ∧ ItemR B w L a md := by
 have h1 := Afu h hd
 have hl : i < L.length := by rw [← hm.it.1]; exact (List.getElem?_eq_some_iff.1 h1).1
 exact ⟨L[i], by simp [hl], hm.it.2 i a _ h1 (by simp [hl])⟩
theorem MemR.box (hm : MemR B w L s σs σ) {i : Nat} {T : TypeId} {v : PV} (h : Bb s.it i = .box T v) : ∃ b cells, L[i]? = some (.box b cells T) ∧ EncC B w L v cells := by
 obtain ⟨md, h1, h2⟩ := hm.item h (by intro e; cases e)
 cases md with
 | dead => exact h2.elim
 | box b cells T' => obtain ⟨rfl, h3⟩ := h2; exact ⟨b, cells, h1, h3⟩
 | own _ _ _ _ => exact h2.elim
theorem MemR.arr (hm : MemR B w L s σs σ) {i : Nat} {E : TypeId} {e : ET} {l : List e.T} (h : Bb s.it i = .arr E e l) : ∃ v cs, L[i]? = some (.own e.size E v cs) ∧ Az (Aj B w e) l cs := by
 obtain ⟨md, h1, h2⟩ := hm.item h (by intro e; cases e)
 cases md with
 | dead => exact h2.elim
 | box b cells T' => exact h2.elim
 | own z E' v cs => obtain ⟨rfl, rfl, h3⟩ := h2; exact ⟨v, cs, h1, h3⟩
theorem Rel.Dn (hr : Rel Z s σs A L σ w) {i : Nat} {md : MD} (h : L[i]? = some md) : (L.map MD.Dn)[i]? = some md.Dn := by simp [h]
structure Ext (Z : Fix) (s : S) (σs : List Env) (A : Reg) (L : List MD) (σ : Env) (w w' : World) : Prop where
 ex : ∃ (A' : Reg) (L' : List MD) (it' : List Item), (∀ b, A b → A' b) ∧ Rel Z ⟨s.sl, s.it ++ it', s.st⟩ σs A' (L ++ L') σ w'
 same : Same A w w'
theorem Ext.refl (hr : Rel Z s σs A L σ w) : Ext Z s σs A L σ w w := ⟨⟨A, [], [], fun _ h => h, by simpa using hr⟩, fun _ _ => rfl⟩
theorem Atx {c1 c2 c3 : List Value} {o : Nat} (h : c1.length = o) : ((c1 ++ (c2 ++ c3)).drop o).take c2.length = c2 := by
 subst h; simp
theorem Wv : ∀ {p : List Step} {v u : PV} {cs : List Value}, Akg v p = some u → EncC B w L v cs → ∃ c1 c2 c3, cs = c1 ++ (c2 ++ c3) ∧ c1.length = Ag p ∧ EncC B w L u c2
 | [], v, u, cs, h, hv => by simp only [Akg, Option.some.injEq] at h; subst h; exact ⟨[], cs, [], by simp, rfl, hv⟩
 | .fld n off :: r, v, u, cs, h, hv => by
  cases v <;> simp only [Akg, reduceCtorEq] at h
  rename_i l
  split at h
  ·rename_i f hf
   cases hb : Nat.beq (Alw l n) off with
   | false => rw [hb] at h; cases h
   | true =>
    rw [hb] at h
    obtain ⟨c1, c2, c3, e, h1, h2, _⟩ := EncC.field (show EncC.go B w L l cs from hv) hf
    obtain ⟨d1, d2, d3, e', h3, h4⟩ := Wv h h2
    refine ⟨c1 ++ d1, d2, d3 ++ c3, by rw [e, e']; simp, ?_, h4⟩
    rw [List.length_append, h1, h3, Nat.eq_of_beq_eq_true hb]; rfl
  ·cases h
 | .idx j z :: r, v, u, cs, h, hv => by cases v <;> simp [Akg] at h
theorem Avz {t T : TypeId} {u : PV} {x : Operand} {b : Nat} {c1 c2 c3 : List Value} {F : List Fact} {LL : List Mob} {w' : World} (h : OkLoad P t u) (hu : EncC B w L u c2) :
  ∃ val, Df B w L u val ∧ ∀ (A' : Reg) (F : List Fact) (LL : List Mob) (w' : World) (i : Nat), St A' w' F LL → LL[i]? = some (.box b (c1 ++ (c2 ++ c3)) T) → ev σ x = .pointer (some ⟨b, c1.length, none⟩) → XO P σ w' (.load t x) val := by
 obtain ⟨d, hd, ha⟩ := h.agg
 have hlen := hu.len
 cases hA : u.isA with
 | true =>
  refine ⟨.agg c2.toArray, by unfold Df; rw [hA]; exact ⟨c2, rfl, hu⟩, fun A' F LL w' i hs hL hx => ?_⟩
  exact X.Auo hs hL ⟨d, hd, ha.trans hA⟩ h.size hx (by rw [← hlen]; exact Atx rfl) hlen
 | false =>
  have h1 := h.one hA
  rw [h1] at hlen
  match c2, hlen with
  | [v], _ =>
   refine ⟨v, by unfold Df; rw [hA]; exact hu, fun A' F LL w' i hs hL hx => ?_⟩
   exact X.Av9 hs hL ⟨d, hd, ha.trans hA⟩ hx (by simp)
theorem Awp {t : TypeId} {u : PV} {x : Operand} {c2 : List Value} {v : Value} (h : OkLoad P t u) (hu : EncC B w L u c2) (hp : Ao1 B w v c2) (hx : ev σ x = v) :
  ∃ val, Df B w L u val ∧ ∀ w', Same B w w' → XO P σ w' (.load t x) val := by
 obtain ⟨d, hd, ha⟩ := h.agg
 have hlen := hu.len
 obtain ⟨b, off, arr, T, fr, rfl, hB, hb, hc⟩ := hp
 have hcell : ∀ w', Same B w w' → ∀ k, k < c2.length → w'.cell? ⟨b, off + k, none⟩ = c2[k]? := fun w' hs k hk => by
  rw [cell_of ((hs b hB).trans hb)]; exact hc k hk
 cases hA : u.isA with
 | true =>
  refine ⟨.agg c2.toArray, by unfold Df; rw [hA]; exact ⟨c2, rfl, hu⟩, fun w' hs _ _ _ _ _ => ?_⟩
  have h1 := Er (P := P) (w := w') (b := b) (off := off) c2 (hcell w' hs)
  rw [hlen] at h1
  simp only [execOp, hx, Instr.loadAt, Instr.sureAddr, Sem.run_bind, Sem.run_pure, Result.andThen_ok, loadVar, Bz hd (ha.trans hA), if_true, Aq h.size, h1]
 | false =>
  have h1 := h.one hA
  rw [h1] at hlen
  match c2, hlen with
  | [v], _ =>
   refine ⟨v, by unfold Df; rw [hA]; exact hu, fun w' hs _ _ _ _ _ => ?_⟩
   have h2 : w'.cell? ⟨b, off, none⟩ = some v := by simpa using hcell w' hs 0 (by simp)
   simp only [execOp, hx, Instr.loadAt, Instr.sureAddr, Sem.run_bind, Sem.run_pure, Result.andThen_ok, loadVar, Bz hd (ha.trans hA), Bool.false_eq_true, if_false, Mj h2]
theorem Az.Oo {k : Kd} : ∀ {l : List k.T} {cs : List Value}, Az (Aj B w (.int k)) l cs → cs = Go.Lv.Oo (k := k.k) l
 | [], _, h => h
 | x :: l, _, ⟨c1, c2, e, h1, h2⟩ => by rw [e, show c1 = _ from h1, Az.Oo h2]; rfl
theorem Az.nil {α : Type} {f : α → List Value → Prop} : Az f [] [] := rfl
theorem Az.take {α : Type} {f : α → List Value → Prop} {z : Nat} (hz : ∀ x c, f x c → c.length = z) : ∀ {l : List α} {cs : List Value} (k : Nat), Az f l cs → Az f (l.take k) (cs.take (k * z))
 | [], cs, k, h => by rw [show cs = [] from h]; simp [Az]
 | a :: l, cs, 0, _ => by simp [Az]
 | a :: l, cs, k + 1, ⟨c1, c2, e, h1, h2⟩ => by
  subst e
  refine ⟨c1, c2.take (k * z), ?_, h1, Az.take hz k h2⟩
  have : (k + 1) * z = c1.length + k * z := by rw [hz _ _ h1, Nat.succ_mul]; omega
  rw [this, List.take_length_add_append]
theorem Az.drop {α : Type} {f : α → List Value → Prop} {z : Nat} (hz : ∀ x c, f x c → c.length = z) : ∀ {l : List α} {cs : List Value} (k : Nat), Az f l cs → Az f (l.drop k) (cs.drop (k * z))
 | [], cs, k, h => by rw [show cs = [] from h]; simp [Az]
 | a :: l, cs, 0, h => by simpa using h
 | a :: l, cs, k + 1, ⟨c1, c2, e, h1, h2⟩ => by
  subst e
  have : (k + 1) * z = c1.length + k * z := by rw [hz _ _ h1, Nat.succ_mul]; omega
  have h3 : (c1 ++ c2).drop (c1.length + k * z) = c2.drop (k * z) := by simp [List.drop_append]
  rw [this, h3]
  exact Az.drop hz k h2
theorem Rd.part {z : Nat} {E : TypeId} {u v : Value} {cs : List Value} {p : List Step} {lo n : Int} (hv : Aqi true (.own z E u cs) p z lo n v) (h : Rd B w z u cs) : Rd B w z v ((cs.drop (lo.toNat * z)).take (n.toNat * z)) := by
 obtain ⟨h1, h2, ⟨pt, cap, rfl, h4, h5, h6⟩, h7, _⟩ := hv
 obtain ⟨s', E', q, len, cap0, c0, e0, rfl, g2, g3, _⟩ := h7 rfl
 cases e0
 obtain ⟨q', len', cap', e1, k1, k2, k3, k4⟩ := h
 cases e1
 have k5 := g3 _ _ _ rfl
 have e5 : lo.toNat * z + n.toNat * z ≤ len * z := by rw [← Nat.add_mul]; exact Nat.mul_le_mul_right z g2
 refine ⟨pt, n.toNat, cap, rfl, ?_, h4, h5, fun hc => ?_⟩
 ·rw [List.length_take, List.length_drop, k1]; omega
 ·obtain ⟨b, e2, e3⟩ := h6 hc
  obtain ⟨b', off, arr, T, fr, e4, m1, m2, m3, m4⟩ := k4 (by omega)
  subst e4
  have e6 : b' = b ∧ off = 0 := by
   unfold MD.base at e2
   split at e2
   ·rename_i heq; cases heq
   ·rename_i heq; cases heq; cases e2; exact ⟨rfl, rfl⟩
   ·cases e2
  obtain ⟨rfl, rfl⟩ := e6
  refine ⟨b', lo.toNat * z, arr, T, fr, by rw [e3]; simp [Ag], m1, m2, ?_, fun i hi => ?_⟩
  ·have : lo.toNat * z + cap * z ≤ cap0 * z := by rw [← Nat.add_mul]; exact Nat.mul_le_mul_right z k5
   omega
  ·have := m4 (lo.toNat * z + i) (by omega)
   rw [Nat.zero_add] at this
   rw [this, List.getElem?_take, if_pos hi, List.getElem?_drop]
theorem Ahs {e : ET} {p : PV} {l : List e.T} {v : Value} (hm : MemR B w L s σs σ) (h : elems s e p = some l) (hv : Cb B w L p v) :
  ∃ c0, Az (Aj B w e) l c0 ∧ ((Rd B w e.size v c0) ∨ (∃ i E u cs, i ∈ owns p ∧ L[i]? = some (.own e.size E u cs) ∧ ∀ (B : Reg) (w : World), Rd B w e.size u cs → Rd B w e.size v c0)) := by
 unfold elems at h
 split at h
 ·rename_i e' x
  split at h
  ·rename_i a l'
   split at h
   ·rename_i ha
    subst ha
    cases h
    obtain ⟨c0, h1, h2⟩ := Kb hv
    exact ⟨c0, h2, .inl h1⟩
   ·cases h
  ·cases h
 ·cases h
  rw [Ln hv]
  exact ⟨[], rfl, .inl Rd.nil⟩
 ·rename_i i
  split at h
  ·rename_i E a l' hi
   split at h
   ·rename_i ha
    subst ha
    cases h
    obtain ⟨v', cs, h1, h2⟩ := hm.arr hi
    obtain ⟨z, E', c', h3⟩ := Ms hv
    rw [h1] at h3; cases h3
    exact ⟨cs, h2, .inr ⟨i, E, _, cs, .head _, h1, fun _ _ h => h⟩⟩
   ·cases h
  ·cases h
 ·rename_i i p e1 lo n
  split at h
  ·rename_i E a l' hi
   split at h
   ·rename_i ha
    subst ha
    cases he : decide (e1 = a) with
    | false => rw [he] at h; cases h
    | true =>
     rw [he] at h
     cases h
     have := of_decide_eq_true he
     subst this
     obtain ⟨v', cs, h1, h2⟩ := hm.arr hi
     obtain ⟨md, v1, h3, h4, h5⟩ := hv
     rw [h1] at h3; cases h3
     have h6 : v = v1 := by simpa using h4
     subst h6
     exact ⟨_, Az.take (fun x c h => Aj.len h) _ (Az.drop (fun x c h => Aj.len h) _ h2), .inr ⟨i, E, v', cs, .head _, h1, fun _ _ h => Rd.part h5 h⟩⟩
   ·cases h
  ·cases h
 ·cases h
theorem Rd.slice {z : Nat} {v : Value} {cs : List Value} (h : Rd B w z v cs) (hz : 0 < z) : ∃ p len cap, v = .slice p len cap ∧ cs.length = len * z := by
 obtain ⟨p, len, cap, h1, h2, _⟩ := h; exact ⟨p, len, cap, h1, h2⟩
theorem Avs {t e' : TypeId} {e : ET} {x : Operand} {p : Option Addr} {len cap : Nat} {l : List e.T} {cs : List Value} (ht : P.underlying t = some (.slice e')) (hz : Nat.beq e.size 0 = false) (hc : Az (Aj B w e) l cs)
  (hl : cs.length = len * e.size) (hx : ev σ x = .slice p len cap) : ∀ w', XO P σ w' (.call ⟨.builtin .len, #[x], #[t]⟩) (iv (Aa l)) := by
 have h1 := hc.len fun x c h => Aj.len h
 have hp : 0 < e.size := by
  rcases Nat.eq_zero_or_pos e.size with h | h
  ·rw [h] at hz; cases hz
  ·exact h
 have : len = l.length := Nat.eq_of_mul_eq_mul_right hp (hl.symm.trans h1)
 subst this
 intro w'
 exact X.Aid ht hx
theorem Rel.Hn (hr : Rel Z s σs A L σ w) {i z : Nat} {E : TypeId} {v : Value} {cs : List Value} (h : L[i]? = some (.own z E v cs)) : Rd (fun _ => True) w z v cs :=
 St.Hn (E := E) hr (j := i) (hr.Dn h)
theorem Asb (hr : Rel Z s σs A L σ w) {o : Op} {v : PV} (h : op1 P s o = some v) : Yields P (fun b => A b ∧ Z.R b) w L σ (Ext Z s σs A L σ w) o v := by
 have hm := hr.mem
 have hS : ∀ w', Ext Z s σs A L σ w w' → Same (fun b => A b ∧ Z.R b) w w' := fun w' he b hb => he.same b hb.1
 unfold op1 at h
 split at h
 ·
  rename_i t x
  split at h
  ·rename_i i p hx
   obtain ⟨md, b, h1, h2, h3⟩ := Jb (Bl hm.sl hx rfl)
   split at h
   ·rename_i T v0 hi
    split at h
    ·rename_i u hu
     cases hk : Ff P t u with
     | false => rw [hk] at h; cases h
     | true =>
      rw [hk] at h; cases h
      obtain ⟨b', cells, h4, h5⟩ := hm.box hi
      rw [h4] at h1; cases h1
      cases h2
      obtain ⟨c1, c2, c3, e, h6, h7⟩ := Wv hu h5
      obtain ⟨val, h8, h9⟩ := Avz (σ := σ) (x := x) (b := b) (T := T) (c1 := c1) (c3 := c3) (F := []) (LL := []) (w' := w) (Fz hk) h7
      obtain ⟨hv, hv'⟩ := Ea h8
      refine ⟨hv, val, fun w' he => ?_, hv'⟩
      obtain ⟨A', L', it', ha, hr'⟩ := he.ex
      have h10 : (L ++ L')[i]? = some (.box b cells T) := by rw [List.getElem?_append_left (List.getElem?_eq_some_iff.1 h4).1]; exact h4
      exact h9 A' _ _ w' i hr' (by rw [hr'.Dn h10, ← e]; rfl) (by rw [h3, h6])
    ·cases h
   ·cases h
  ·rename_i u hx
   cases hk : Ff P t u with
   | false => rw [hk] at h; cases h
   | true =>
    rw [hk] at h; cases h
    obtain ⟨c0, h1, h2⟩ := Ai4 (Bl hm.sl hx rfl)
    obtain ⟨val, h3, h4⟩ := Awp (P := P) (Fz hk) h2 h1 rfl
    obtain ⟨hv, hv'⟩ := Ea h3
    exact ⟨hv, val, fun w' he => h4 w' (hS w' he), hv'⟩
  ·cases h
 ·
  rename_i a t x
  split at h
  ·rename_i ht
   split at h
   ·rename_i e ha
    split at h
    ·rename_i he
     cases hel : elems s (.int .u8) (Cd s.sl x) with
     | none => rw [hel] at h; cases h
     | some l =>
      rw [hel] at h; cases h
      have hx := Xa hm.sl x
      have hV : (Cd s.sl x).isV = true := by
       cases hq : (Cd s.sl x).isV with
       | true => rfl
       | false => rcases Kc hq with h | h | ⟨_, _, _, h⟩ <;> rw [h] at hel <;> cases hel
      obtain ⟨c0, h1, h2⟩ := Ahs hm hel ((OpR.iff hV).1 hx)
      have h3 := Az.Oo (k := .u8) h1
      subst h3
      refine ⟨rfl, sv l, fun w' hext => ?_, rfl⟩
      rcases h2 with h2 | ⟨i, E, u, cs, _, h2, hpart⟩
      ·exact X.b2s (l := l) ha he ht (h2.step (fun _ h => h) (hS w' hext)) rfl
      ·obtain ⟨A', L', it', ha', hr'⟩ := hext.ex
       have h4 : (L ++ L')[i]? = some (.own 1 E u cs) := by rw [List.getElem?_append_left (List.getElem?_eq_some_iff.1 h2).1]; exact h2
       exact X.b2s (l := l) ha he ht (hpart _ _ (hr'.Hn h4)) rfl
    ·cases h
   ·cases h
  ·cases h
 ·
  rename_i as ts
  split at h
  ·rename_i x t has hts
   have h1 := Me has
   have h2 := Me hts
   subst h1 h2
   split at h
   ·rename_i ht
    split at h
    ·rename_i l hx
     cases h
     exact ⟨rfl, _, fun w' _ => X.Aws ht (Hh hm.sl hx), rfl⟩
    ·cases h
   ·rename_i e' ht
    split at h
    ·rename_i e l hx
     cases hz : Nat.beq e.size 0 with
     | true => rw [hz] at h; cases h
     | false =>
      rw [hz] at h; cases h
      obtain ⟨c0, h3, h4⟩ := Kb (Bl hm.sl hx rfl)
      obtain ⟨p, len, cap, h5, h6, _⟩ := h3
      exact ⟨rfl, _, fun w' _ => Avs ht hz h4 h6 h5 w', rfl⟩
    ·rename_i hx
     cases h
     have h3 := Ln (Bl hm.sl hx rfl)
     exact ⟨rfl, _, fun w' _ => X.Aid ht h3, rfl⟩
    ·rename_i o i p e n lo hx
     cases h
     obtain ⟨md, v1, h3, h4, h5⟩ := Bl hm.sl hx rfl
     obtain ⟨k1, k2, ⟨pt, cap, k3, _⟩, _⟩ := h5
     have h6 : ev σ x = v1 := by simpa using h4
     refine ⟨rfl, _, fun w' _ => X.Aid ht (h6.trans k3), ?_⟩
     show [_] = [_]
     simp [iv, GI.toZ, Int.toNat_of_nonneg k2]
    ·rename_i i hx
     split at h
     ·rename_i E e l hi
      cases hz : Nat.beq e.size 0 with
      | true => rw [hz] at h; cases h
      | false =>
       rw [hz] at h; cases h
       obtain ⟨v', cs, h3, h4⟩ := hm.arr hi
       obtain ⟨z, E', c', h5⟩ := Ms (Bl hm.sl hx rfl)
       rw [h3] at h5; cases h5
       obtain ⟨p, len, cap, h6, h7, _⟩ := hr.Hn h3
       exact ⟨rfl, _, fun w' _ => Avs ht hz h4 h7 h6 w', rfl⟩
     ·cases h
    ·cases h
   ·rename_i n _ ht
    cases h
    exact ⟨rfl, _, fun w' _ => X.Aw3 ht rfl, rfl⟩
   ·cases h
  ·cases h
 ·cases h
end Go.Rx
set_option linter.unusedVariables false
set_option linter.unusedSimpArgs false
namespace Go.Rx
open Go Go.Lv
variable {P : Program} {B : Reg} {w w' : World} {L L' : List MD} {s : S} {σs : List Env} {σ : Env} {Z : Fix} {A A' : Reg} {n : Nat}
theorem Vg : ∀ {sl : Slots} {d t : Nat} {p : PV}, (t, p) ∈ Aj1 d sl → (t, p) ∈ sl ∧ t ≠ d ∧ ∀ j w q, p = .gd j w q → j ≠ d
 | [], _, _, _, h => by simp [Aj1] at h
 | (q, v) :: r, d, t, p, h => by
  have key : ∀ {j : Nat}, Nat.beq j d = false → j ≠ d := fun h e => by subst e; simp at h
  simp only [Aj1] at h
  cases hq : Nat.beq q d with
  | true => rw [hq] at h; obtain ⟨h1, h2⟩ := Vg h; exact ⟨.tail _ h1, h2⟩
  | false =>
   rw [hq] at h
   dsimp only [Bj, cond] at h
   split at h
   ·rename_i j w u
    cases hj : Nat.beq j d with
    | true => rw [hj] at h; obtain ⟨h1, h2⟩ := Vg h; exact ⟨.tail _ h1, h2⟩
    | false =>
     rw [hj] at h
     rcases List.mem_cons.1 h with h | h
     ·cases h; exact ⟨.head _, key hq, fun j' w' q' e => by cases e; exact key hj⟩
     ·obtain ⟨h1, h2⟩ := Vg h; exact ⟨.tail _ h1, h2⟩
   ·rename_i hg
    rcases List.mem_cons.1 h with h | h
    ·cases h; exact ⟨.head _, key hq, fun j' w' q' e => (hg _ _ _ e).elim⟩
    ·obtain ⟨h1, h2⟩ := Vg h; exact ⟨.tail _ h1, h2⟩
theorem Dj.other {d t : Nat} {p : PV} {v : Value} (h : Dj B w L σ t p) (ht : t ≠ d) (hg : ∀ j w q, p = .gd j w q → j ≠ d) : Dj B w L (Jl σ d v) t p := by
 cases hv : p.isV with
 | true =>
  refine (Dj.iff hv).2 ?_
  rw [Afe _ _ ht]; exact (Dj.iff hv).1 h
 | false =>
  rcases Kc hv with rfl | rfl | ⟨j, w, q, rfl⟩
  ·exact trivial
  ·show Go.Lv.Jl σ d v t = _
   rw [Afe _ _ ht]; exact h
  ·obtain ⟨b, h1, h2, h3⟩ := h
   have hj := hg _ _ _ rfl
   exact ⟨b, by rw [Afe _ _ hj]; exact h1, by rw [Afe _ _ ht]; exact h2, by rw [Afe _ _ ht]; exact h3⟩
theorem SlotsR.set {sl : Slots} {d : Nat} {p : PV} {v : Value} (h : SlotsR B w L σ sl) (hp : Dj B w L (Jl σ d v) d p) : SlotsR B w L (Jl σ d v) (Azj sl d p) := by
 rintro ⟨t, q⟩ hq
 rcases List.mem_cons.1 hq with hq | hq
 ·cases hq; exact hp
 ·obtain ⟨h1, h2, h3⟩ := Vg hq
  exact (h _ h1).other h2 h3
theorem Rel.Aty {s' : S} {σ' : Env} (hr : Rel Z s σs A L σ w) (hi : s'.it = s.it) (ht : s'.st = s.st) (h : SlotsR (fun b => A b ∧ Z.R b) w L σ' s'.sl) : Rel Z s' σs A L σ' w :=
 Rel.as hr (i := 1) rfl ⟨by rw [hi]; exact hr.mem.it, h, by rw [ht]; exact hr.mem.stk⟩ rfl
theorem Dj.put {d : Nat} {p : PV} {v : Value} (hv : p.isV = true) (h : Cb B w L p v) : Dj B w L (Jl σ d v) d p := by
 refine (Dj.iff hv).2 ?_
 rw [Po]; exact h
theorem Rel.set {d : Nat} {p : PV} {v : Value} (hr : Rel Z s σs A L σ w) (h : Dj (fun b => A b ∧ Z.R b) w L (Jl σ d v) d p) : Rel Z (s.set d p) σs A L (Jl σ d v) w :=
 hr.Aty rfl rfl (hr.mem.sl.set h)
def At8 (σ : Env) (d : Option Nat) (v : Value) : Env := match d with | some d => Jl σ d v | none => σ
theorem Rel.Cq {d : Option Nat} {p : PV} {v : Value} (hr : Rel Z s σs A L σ w) (hv : p.isV = true) (h : Cb (fun b => A b ∧ Z.R b) w L p v) : Rel Z (s.Cq d p) σs A L (At8 σ d v) w := by
 cases d with
 | none => exact hr
 | some d => exact hr.set (.put hv h)
theorem Rel.Axl {d : Option Nat} (hr : Rel Z s σs A L σ w) : Rel Z (s.Cq d .off) σs A L (At8 σ d Go.undef) w := by
 cases d with
 | none => exact hr
 | some d => exact hr.set (show Jl σ d Go.undef d = Go.undef from Po _ _ _)
theorem Aru : ∀ {sl : Slots} {t q : Nat} {b : Bool} {p : PV}, (q, p) ∈ Auh t b sl → (q = t ∧ p = .cst (.bool b)) ∨ (∃ p0, (q, p0) ∈ sl ∧ (p = p0 ∨ ∃ want u, p0 = .gd t want u ∧ p = (Bj (eqB want b ) (u ) <| .off)))
 | [], _, _, _, _, h => by simp [Auh] at h
 | (q', v) :: r, t, q, b, p, h => by
  simp only [Auh] at h
  rcases List.mem_cons.1 h with g | g
  ·clear h
   cases hq : Nat.beq q' t with
   | true =>
    rw [hq] at g
    simp only [cond_true, Aln, Prod.mk.injEq] at g
    exact .inl ⟨g.1.trans (Nat.eq_of_beq_eq_true hq), g.2⟩
   | false =>
    rw [hq] at g
    dsimp only [Bj, cond] at g
    split at g
    ·rename_i j want u
     cases hj : Nat.beq j t with
     | true =>
      rw [hj] at g
      simp only [cond_true, Aln, Prod.mk.injEq] at g
      have := Nat.eq_of_beq_eq_true hj
      subst this
      exact .inr ⟨_, by rw [g.1]; exact .head _, .inr ⟨want, u, rfl, g.2⟩⟩
     | false =>
      rw [hj] at g
      cases g
      exact .inr ⟨_, .head _, .inl rfl⟩
    ·cases g
     exact .inr ⟨_, .head _, .inl rfl⟩
  ·rcases Aru g with h | ⟨p0, h1, h2⟩
   ·exact .inl h
   ·exact .inr ⟨p0, .tail _ h1, h2⟩
theorem SlotsR.res {sl : Slots} {t : Nat} {b : Bool} (h : SlotsR B w L σ sl) (ht : σ t = .bool b) : SlotsR B w L σ (Auh t b sl) := by
 rintro ⟨q, p⟩ hp
 rcases Aru hp with ⟨h1, h2⟩ | ⟨p0, h1, h2⟩
 ·subst h1; subst h2
  exact ⟨show [σ q] = [_] by rw [ht], rfl⟩
 ·have h3 := h _ h1
  rcases h2 with rfl | ⟨want, u, rfl, rfl⟩
  ·exact h3
  ·obtain ⟨c, h4, h5, h6⟩ := h3
   rw [ht] at h4; cases h4
   cases hw : eqB want b with
   | true =>
    have hb := Ave hw
    subst hb
    have h7 := h5 rfl
    cases hv : u.isV with
    | true => exact (Dj.iff hv).2 h7
    | false =>
     rcases Kc hv with rfl | rfl | ⟨j, w', q', rfl⟩
     ·exact trivial
     ·exact (show False from h7).elim
     ·exact (show False from h7).elim
   | false =>
    show σ q = _
    refine h6 fun e => ?_
    subst e
    cases b <;> cases hw
theorem Rel.res {t : Nat} {b : Bool} (hr : Rel Z s σs A L σ w) (ht : σ t = .bool b) : Rel Z (s.res t b) σs A L σ w := hr.Aty rfl rfl (hr.mem.sl.res ht)
structure Grow (A : Reg) (L : List MD) (it : List Item) (w : World) (A' : Reg) (L' : List MD) (it' : List Item) (w' : World) : Prop where
 reg : ∀ b, A b → A' b
 same : Same A w w'
 md : ∃ M, L' = L ++ M
 it : ∃ m, it' = it ++ m
theorem Grow.refl {it : List Item} : Grow A L it w A L it w := ⟨fun _ h => h, fun _ _ => rfl, ⟨[], by simp⟩, ⟨[], by simp⟩⟩
theorem Grow.trans {A'' : Reg} {L'' : List MD} {it it' it'' : List Item} {w'' : World} (h : Grow A L it w A' L' it' w') (h' : Grow A' L' it' w' A'' L'' it'' w'') : Grow A L it w A'' L'' it'' w'' := by
 obtain ⟨M, e1⟩ := h.md; obtain ⟨m, e2⟩ := h.it; obtain ⟨M', e3⟩ := h'.md; obtain ⟨m', e4⟩ := h'.it
 exact ⟨fun b hb => h'.reg b (h.reg b hb), fun b hb => (h'.same b (h.reg b hb)).trans (h.same b hb), ⟨M ++ M', by rw [e3, e1, List.append_assoc]⟩, ⟨m ++ m', by rw [e4, e2, List.append_assoc]⟩⟩
theorem Grow.ext {s' : S} {σ' : Env} (hg : Grow A L s.it w A' L' s'.it w') (hr : Rel Z s σs A L σ w) (hr' : Rel Z s' σs A' L' σ' w') : Ext Z s σs A L σ w w' := by
 obtain ⟨M, e1⟩ := hg.md; obtain ⟨m, e2⟩ := hg.it
 refine ⟨⟨A', M, m, hg.reg, ?_⟩, hg.same⟩
 rw [← e1]
 have hl : LeL L L' := by rw [e1]; exact LeL.append _ _
 exact Rel.as hr' (i := 1) rfl ⟨by rw [← e2]; exact hr'.mem.it, hr.mem.sl.step (fun b hb => ⟨hg.reg b hb.1, hb.2⟩) (fun b hb => hg.same b hb.1) hl,
  hr.mem.stk.step (fun b hb => ⟨hg.reg b hb.1, hb.2⟩) (fun b hb => hg.same b hb.1) hl⟩ rfl
theorem Mobs.Ade {F : List Fact} {LL LL' : List Mob} (h : St A w F LL) (hp : LL.Perm LL') : St A w F LL' := ⟨h.lt, h.facts, h.mobs.perm hp⟩
theorem Rel.push {md : MD} {a : Item} (h : St A' w' [Aki Z.R L s σs σ, .old Z.M Z.w0] (md.Dn :: L.map MD.Dn)) (ha : ItemR (fun b => A' b ∧ Z.R b) w' (L ++ [md]) a md) :
  Rel Z (s.add a) σs A' (L ++ [md]) σ w' := by
 have hm : MemR (fun b => A' b ∧ Z.R b) w' L s σs σ := h.fact 0 rfl
 have hl := LeL.append L [md]
 refine Rel.as (h := Mobs.Ade h ?_) (i := 1) rfl ⟨⟨?_, ?_⟩, hm.sl.step (fun _ h => h) (fun _ _ => rfl) hl, hm.stk.step (fun _ h => h) (fun _ _ => rfl) hl⟩ rfl
 ·rw [List.map_append]; exact (List.perm_append_comm (l₁ := [md.Dn]) (l₂ := L.map MD.Dn))
 ·simp [S.add, hm.it.1]
 ·intro i a' m h1 h2
  simp only [S.add] at h1
  rcases Nat.lt_or_ge i s.it.length with hi | hi
  ·rw [List.getElem?_append_left hi] at h1
   rw [List.getElem?_append_left (by rw [← hm.it.1]; exact hi)] at h2
   exact (hm.it.2 i a' m h1 h2).step (fun _ h => h) (fun _ _ => rfl) hl
  ·rw [List.getElem?_append_right hi] at h1
   rw [List.getElem?_append_right (by rw [← hm.it.1]; exact hi)] at h2
   rw [hm.it.1] at h1
   cases hq : i - L.length with
   | zero => rw [hq] at h1 h2; simp at h1 h2; subst h1 h2; exact ha
   | succ q => rw [hq] at h1; simp at h1
theorem Ac7 : ∀ {it : List Item} {i j : Nat} {a b : Item}, (Kk it i a)[j]? = some b → (j = i ∧ b = a) ∨ (j ≠ i ∧ it[j]? = some b)
 | [], _, _, _, _, h => by simp [Kk] at h
 | c :: r, 0, 0, a, b, h => by simp [Kk] at h; exact .inl ⟨rfl, h.symm⟩
 | c :: r, 0, j + 1, a, b, h => by simp [Kk] at h; exact .inr ⟨by omega, by simpa using h⟩
 | c :: r, i + 1, 0, a, b, h => by simp [Kk] at h; exact .inr ⟨by omega, by simpa using h⟩
 | c :: r, i + 1, j + 1, a, b, h => by
  simp [Kk] at h
  rcases Ac7 h with ⟨h1, h2⟩ | ⟨h1, h2⟩
  ·exact .inl ⟨by omega, h2⟩
  ·exact .inr ⟨by omega, by simpa using h2⟩
theorem Adc : ∀ {it : List Item} {i : Nat} {a : Item}, (Kk it i a).length = it.length
 | [], _, _ => rfl
 | _ :: _, 0, _ => rfl
 | _ :: r, i + 1, a => by simp [Kk, Adc]
theorem Rel.change {i : Nat} {md md' : MD} {a : Item} (h : St A' w' [Aki Z.R L s σs σ, .old Z.M Z.w0] ((L.map MD.Dn).set i md'.Dn)) (hi : L[i]? = some md)
  (hle : LeL L (L.set i md')) (ha : ItemR (fun b => A' b ∧ Z.R b) w' (L.set i md') a md') : Rel Z (s.Jl i a) σs A' (L.set i md') σ w' := by
 have hm : MemR (fun b => A' b ∧ Z.R b) w' L s σs σ := h.fact 0 rfl
 refine Rel.as h (i := 1) rfl ⟨⟨?_, ?_⟩, hm.sl.step (fun _ h => h) (fun _ _ => rfl) hle, hm.stk.step (fun _ h => h) (fun _ _ => rfl) hle⟩ (by rw [List.map_set])
 ·simp [S.Jl, Adc, hm.it.1]
 ·intro j b m h1 h2
  simp only [S.Jl] at h1
  rcases Ac7 h1 with ⟨rfl, rfl⟩ | ⟨h3, h4⟩
  ·rw [List.getElem?_set_self (List.getElem?_eq_some_iff.1 hi).1] at h2
   cases h2; exact ha
  ·rw [List.getElem?_set_ne (Ne.symm h3)] at h2
   exact (hm.it.2 j b m h4 h2).step (fun _ h => h) (fun _ _ => rfl) hle
theorem LeL.set {i : Nat} {md md' : MD} (hi : L[i]? = some md) (h1 : ∀ s E v c, md = .own s E v c → ∃ s' E' c', md' = .own s' E' v c') (h2 : ∀ b, md.base = some b → md'.base = some b) : LeL L (L.set i md') := by
 have hl := (List.getElem?_eq_some_iff.1 hi).1
 refine ⟨fun j s E v c h => ?_, fun j m b h h' => ?_⟩
 ·by_cases hj : j = i
  ·subst hj
   rw [hi] at h; cases h
   obtain ⟨s', E', c', rfl⟩ := h1 _ _ _ _ rfl
   exact ⟨s', E', c', by rw [List.getElem?_set_self hl]⟩
  ·exact ⟨s, E, c, by rw [List.getElem?_set_ne (Ne.symm hj)]; exact h⟩
 ·by_cases hj : j = i
  ·subst hj
   rw [hi] at h; cases h
   exact ⟨md', by rw [List.getElem?_set_self hl], h2 b h'⟩
  ·exact ⟨m, by rw [List.getElem?_set_ne (Ne.symm hj)]; exact h, h'⟩
end Go.Rx
set_option linter.unusedVariables false
set_option linter.unusedSimpArgs false
namespace Go.Rx
open Go Go.Lv
variable {P : Program} {B : Reg} {w w' : World} {L L' : List MD} {s : S} {σs : List Env} {σ : Env} {Z : Fix} {A A' : Reg} {n : Nat}
theorem Az.get {α : Type} {f : α → List Value → Prop} {z : Nat} (hz : ∀ x c, f x c → c.length = z) : ∀ {l : List α} {i : Nat} {x : α} {cs : List Value}, Az f l cs → l[i]? = some x →
  ∃ c1 c2 c3, cs = c1 ++ (c2 ++ c3) ∧ c1.length = i * z ∧ f x c2 ∧ ∀ y c2', f y c2' → Az f (l.set i y) (c1 ++ (c2' ++ c3))
 | [], _, _, _, _, h => by simp at h
 | a :: l, 0, x, cs, ⟨c1, c2, e, h1, h2⟩, h => by
  simp at h; subst h
  exact ⟨[], c1, c2, by simpa using e, by simp, h1, fun y c2' hy => ⟨c2', c2, by simp, hy, h2⟩⟩
 | a :: l, i + 1, x, cs, ⟨c1, c2, e, h1, h2⟩, h => by
  obtain ⟨d1, d2, d3, e', h3, h4, h5⟩ := Az.get hz (i := i) h2 (by simpa using h)
  refine ⟨c1 ++ d1, d2, d3, by rw [e, e']; simp, by rw [List.length_append, hz _ _ h1, h3, Nat.succ_mul]; omega, h4, fun y c2' hy => ?_⟩
  exact ⟨c1, d1 ++ (c2' ++ d3), by simp, h1, h5 y c2' hy⟩
theorem Az.append {α : Type} {f : α → List Value → Prop} : ∀ {l m : List α} {cs ds : List Value}, Az f l cs → Az f m ds → Az f (l ++ m) (cs ++ ds)
 | [], m, cs, ds, h, h' => by rw [show cs = [] from h]; exact h'
 | a :: l, m, cs, ds, ⟨c1, c2, e, h1, h2⟩, h' => ⟨c1, c2 ++ ds, by rw [e]; simp, h1, Az.append h2 h'⟩
theorem Aj.one : ∀ {e : ET} {x : e.T} {cs : List Value}, Aj B w e x cs → ∀ v ∈ cs, v.oneCell' = true
 | .int k, x, cs, h, v, hv => by rw [show cs = _ from h] at hv; simp at hv; subst hv; rfl
 | .bool, x, cs, h, v, hv => by rw [show cs = _ from h] at hv; simp at hv; subst hv; rfl
 | .str, x, cs, h, v, hv => by rw [show cs = _ from h] at hv; simp at hv; subst hv; rfl
 | .list e, l, cs, ⟨u, c0, e1, h, _⟩, v, hv => by
  rw [e1] at hv; simp at hv; subst hv
  obtain ⟨p, len, cap, rfl, _⟩ := h; rfl
 | .vec n e, l, cs, ⟨_, h⟩, v, hv => by
  have key : ∀ (l : List e.T) (cs : List Value), Az (Aj B w e) l cs → v ∈ cs → v.oneCell' = true := by
   intro l
   induction l with
   | nil => intro cs h hv; rw [show cs = [] from h] at hv; simp at hv
   | cons a l ih =>
    rintro cs ⟨c1, c2, e', h1, h2⟩ hv
    subst e'
    rcases List.mem_append.1 hv with hv | hv
    ·exact Aj.one h1 v hv
    ·exact ih _ h2 hv
  exact key l cs h hv
 | .cons a r, x, cs, ⟨c1, c2, e, h1, h2⟩, v, hv => by
  subst e
  rcases List.mem_append.1 hv with hv | hv
  ·exact Aj.one h1 v hv
  ·exact Aj.one h2 v hv
 | .nil, _, cs, h, v, hv => by rw [show cs = [] from h] at hv; simp at hv
theorem Az.one {e : ET} : ∀ {l : List e.T} {cs : List Value}, Az (Aj B w e) l cs → ∀ v ∈ cs, v.oneCell' = true
 | [], cs, h, v, hv => by rw [show cs = [] from h] at hv; simp at hv
 | a :: l, cs, ⟨c1, c2, e', h1, h2⟩, v, hv => by
  subst e'
  rcases List.mem_append.1 hv with hv | hv
  ·exact h1.one v hv
  ·exact Az.one h2 v hv
theorem Az.Apd {e : ET} {l : List e.T} {cs : List Value} (h : Az (Aj B w e) l cs) : cs.all (·.oneCell') = true := List.all_eq_true.2 h.one
theorem Aks {R : Type} {k : PV → Option R} {r : R} : ∀ {p : List Step} {v : PV} {cs : List Value}, Arh v p k = some r → EncC B w L v cs →
  ∃ u c1 c2 c3, k u = some r ∧ cs = c1 ++ (c2 ++ c3) ∧ c1.length = Ag p ∧ EncC B w L u c2
 | [], v, cs, h, hv => ⟨v, [], cs, [], by simpa [Arh] using h, by simp, rfl, hv⟩
 | .fld m off :: p, v, cs, h, hv => by
  cases v <;> simp only [Arh, reduceCtorEq] at h
  rename_i l
  split at h
  ·rename_i f hf
   obtain ⟨hb, h⟩ := Ak h
   obtain ⟨c1, c2, c3, e, h1, h2, _⟩ := EncC.field (show EncC.go B w L l cs from hv) hf
   obtain ⟨u, d1, d2, d3, hk, e', h3, h4⟩ := Aks h h2
   refine ⟨u, c1 ++ d1, d2, d3 ++ c3, hk, by rw [e, e']; simp, ?_, h4⟩
   rw [List.length_append, h1, h3, Be hb]; rfl
  ·cases h
 | .idx j z :: p, v, cs, h, hv => by
  cases v <;> simp only [Arh, reduceCtorEq] at h
  rename_i e x
  split at h
  ·rename_i m a l
   obtain ⟨hb, h⟩ := Ak h
   obtain ⟨y, hy, h⟩ := bind_some h
   obtain ⟨hj, _, hl⟩ := Dh hy
   obtain ⟨c1, c2, c3, e, h1, h2, _⟩ := Az.get (fun x c h => Aj.len h) (show Az (Aj B w a) l cs from hv.2) hl
   obtain ⟨u, d1, d2, d3, hk, e', h3, h4⟩ := Aks h (Tz.2 h2)
   refine ⟨u, c1 ++ d1, d2, d3 ++ c3, hk, by rw [e, e']; simp, ?_, h4⟩
   rw [List.length_append, h1, h3, Be hb]; rfl
  ·cases h
def Aeo (B : Reg) (w : World) (L : List MD) : Item → List Value → Prop
 | .box _ v, cs => EncC B w L v cs
 | .arr _ e l, cs => Az (Aj B w e) l cs
 | .dead, _ => False
theorem Amh {R : Type} {k : PV → Option R} {r : R} {a : Item} {p : List Step} {cs : List Value} (h : getRoot a p k = some r) (hv : Aeo B w L a cs) :
  ∃ u c1 c2 c3, k u = some r ∧ cs = c1 ++ (c2 ++ c3) ∧ c1.length = Ag p ∧ EncC B w L u c2 := by
 unfold getRoot at h
 split at h
 ·exact Aks h hv
 ·rename_i E e l j z p
  obtain ⟨hb, h⟩ := Ak h
  obtain ⟨y, hy, h⟩ := bind_some h
  obtain ⟨hj, _, hl⟩ := Dh hy
  obtain ⟨c1, c2, c3, e', h1, h2, _⟩ := Az.get (fun x c h => Aj.len h) (show Az (Aj B w e) l cs from hv) hl
  obtain ⟨u, d1, d2, d3, hk, e'', h3, h4⟩ := Aks h (Tz.2 h2)
  refine ⟨u, c1 ++ d1, d2, d3 ++ c3, hk, by rw [e', e'']; simp, ?_, h4⟩
  rw [List.length_append, h1, h3, Be hb]; rfl
 ·cases h
theorem Xj {c1 c2 c3 ns : List Value} (h : ns.length = c2.length) : Am (c1 ++ (c2 ++ c3)) c1.length ns = c1 ++ (ns ++ c3) := by
 unfold Am
 rw [List.take_left, h, ← List.drop_drop, List.drop_left, List.drop_left]
theorem Uy {c1 c2 c3 ns : List Value} {o : Nat} (hc : c1.length = o) (off : Nat) (h : off + ns.length ≤ c2.length) : Am (c1 ++ (c2 ++ c3)) (o + off) ns = c1 ++ (Am c2 off ns ++ c3) := by
 subst hc
 unfold Am
 rw [List.take_length_add_append, List.take_append_of_le_length (by omega), Nat.add_assoc, ← List.drop_drop, List.drop_left, List.drop_append_of_le_length (by omega)]
 simp
theorem Ahn {R : Type} {new : PV} {ns : List Value} (hn : EncC B w L new ns) {r : R} : ∀ {p : List Step} {v : PV} {cs : List Value} {k : PV → Option R}, Ao4 new v p k = some r → EncC B w L v cs →
  ∃ v', k v' = some r ∧ Ag p + ns.length ≤ cs.length ∧ EncC B w L v' (Am cs (Ag p) ns)
 | [], v, cs, k, h, hv => by
  simp only [Ao4] at h
  obtain ⟨hb, h⟩ := Ak h
  have h1 := hn.len
  have h2 := hv.len
  have h3 := Be hb
  refine ⟨new, h, by simp [Ag]; omega, ?_⟩
  have : Am cs 0 ns = ns := by
   unfold Am
   rw [List.take_zero, List.nil_append, List.drop_of_length_le (by omega), List.append_nil]
  rw [show Ag [] = 0 from rfl, this]; exact hn
 | .fld m off :: p, v, cs, k, h, hv => by
  cases v <;> simp only [Ao4, reduceCtorEq] at h
  rename_i l
  split at h
  ·rename_i f hf
   obtain ⟨hb, h⟩ := Ak h
   obtain ⟨c1, c2, c3, e, h1, h2, h3⟩ := EncC.field (show EncC.go B w L l cs from hv) hf
   obtain ⟨f', hk, h4, h5⟩ := Ahn hn h h2
   have ho : Ag (.fld m off :: p) = c1.length + Ag p := by rw [h1, Be hb]; rfl
   refine ⟨_, hk, by rw [ho, e]; simp; omega, ?_⟩
   rw [ho, e, Uy rfl _ h4]
   exact h3 f' _ h5
  ·cases h
 | .idx j z :: p, v, cs, k, h, hv => by
  cases v <;> simp only [Ao4, reduceCtorEq] at h
  rename_i e x
  split at h
  ·rename_i m a l
   obtain ⟨hb, h⟩ := Ak h
   have hz := Be hb
   have key : ∀ (y y' : a.T) (l' : List a.T) (f : List Value → List Value), Al l j = some y → Io l j y' = some l' → (∀ c2, Aj B w a y c2 → Ag p + ns.length ≤ c2.length ∧ Aj B w a y' (Am c2 (Ag p) ns)) →
     Ag (.idx j z :: p) + ns.length ≤ cs.length ∧ EncC B w L (.val (.vec m a) l') (Am cs (Ag (.idx j z :: p)) ns) := by
    intro y y' l' f hy hs hyp
    obtain ⟨hj, hlt, hl⟩ := Dh hy
    obtain ⟨_, _, rfl⟩ := Un hs
    obtain ⟨c1, c2, c3, e, h1, h2, h3⟩ := Az.get (fun x c h => Aj.len h) (show Az (Aj B w a) l cs from hv.2) hl
    obtain ⟨h4, h5⟩ := hyp c2 h2
    have ho : Ag (.idx j z :: p) = c1.length + Ag p := by rw [h1, hz]; rfl
    refine ⟨by rw [ho, e]; simp; omega, ?_⟩
    rw [ho, e, Uy rfl _ h4]
    exact ⟨by rw [List.length_set]; exact hv.1, h3 y' _ h5⟩
   split at h
   ·split at h
    ·rename_i y' hy'
     obtain ⟨l', hs, h⟩ := bind_some h
     obtain ⟨hj, hlt, _⟩ := Un hs
     have hg : Al l j = some l[j.toNat] := by
      unfold Al; rw [if_pos (by omega)]; simp [hlt]
     obtain ⟨h1, h2⟩ := key _ y' l' id hg hs (fun c2 hc2 => by
      have e1 := (Qn hy' hn).len
      have e2 := hc2.len
      refine ⟨by simp [Ag]; omega, ?_⟩
      have : Am c2 0 ns = ns := by
       unfold Am
       rw [List.take_zero, List.nil_append, List.drop_of_length_le (by omega), List.append_nil]
      rw [show Ag [] = 0 from rfl, this]; exact Qn hy' hn)
     exact ⟨_, h, h1, h2⟩
    ·cases h
   ·obtain ⟨y, hy, h⟩ := bind_some h
    obtain ⟨hj, hlt, hl⟩ := Dh hy
    obtain ⟨c1, c2, c3, e, h1, h2, h3⟩ := Az.get (fun x c h => Aj.len h) (show Az (Aj B w a) l cs from hv.2) hl
    obtain ⟨q, hk, h4, h5⟩ := Ahn hn h (Tz.2 h2)
    split at hk
    ·rename_i y' hy'
     obtain ⟨l', hs, hk⟩ := bind_some hk
     obtain ⟨_, _, rfl⟩ := Un hs
     have ho : Ag (.idx j z :: p) = c1.length + Ag p := by rw [h1, hz]; rfl
     refine ⟨_, hk, by rw [ho, e]; simp; omega, ?_⟩
     rw [ho, e, Uy rfl _ h4]
     exact ⟨by rw [List.length_set]; exact hv.1, h3 y' _ (Qn hy' h5)⟩
    ·cases hk
  ·cases h
def sameKind : Item → Item → Prop | .box T _, .box T' _ => T' = T | .arr E e _, .arr E' e' _ => E' = E ∧ e' = e | _, _ => False
theorem Asj {R : Type} {new : PV} {ns : List Value} (hn : EncC B w L new ns) {r : R} {a : Item} {p : List Step} {cs : List Value} {k : Item → Option R} (h : Aky new a p k = some r) (hv : Aeo B w L a cs) :
  ∃ a', k a' = some r ∧ Ag p + ns.length ≤ cs.length ∧ Aeo B w L a' (Am cs (Ag p) ns) ∧ sameKind a a' := by
 unfold Aky at h
 split at h
 ·obtain ⟨v', hk, h1, h2⟩ := Ahn hn h hv
  exact ⟨_, hk, h1, h2, rfl⟩
 ·rename_i E a l j z p
  obtain ⟨hb, h⟩ := Ak h
  have hz := Be hb
  split at h
  ·split at h
   ·rename_i y' hy'
    obtain ⟨l', hs, h⟩ := bind_some h
    obtain ⟨hj, hlt, rfl⟩ := Un hs
    have hl : l[j.toNat]? = some l[j.toNat] := by simp [hlt]
    obtain ⟨c1, c2, c3, e, h1, h2, h3⟩ := Az.get (fun x c h => Aj.len h) (show Az (Aj B w a) l cs from hv) hl
    have e1 := (Qn hy' hn).len
    have e2 := h2.len
    have ho : Ag [.idx j z] = c1.length := by rw [h1, hz]; rfl
    refine ⟨_, h, by rw [ho, e]; simp; omega, ?_, rfl, rfl⟩
    rw [ho, e, Xj (by omega)]
    exact h3 y' _ (Qn hy' hn)
   ·cases h
  ·obtain ⟨y, hy, h⟩ := bind_some h
   obtain ⟨hj, hlt, hl⟩ := Dh hy
   obtain ⟨c1, c2, c3, e, h1, h2, h3⟩ := Az.get (fun x c h => Aj.len h) (show Az (Aj B w a) l cs from hv) hl
   obtain ⟨q, hk, h4, h5⟩ := Ahn hn h (Tz.2 h2)
   split at hk
   ·rename_i y' hy'
    obtain ⟨l', hs, hk⟩ := bind_some hk
    obtain ⟨_, _, rfl⟩ := Un hs
    have ho : Ag (.idx j z :: p) = c1.length + Ag p := by rw [h1, hz]; rfl
    refine ⟨_, hk, by rw [ho, e]; simp; omega, ?_, rfl, rfl⟩
    rw [ho, e, Uy rfl _ h4]
    exact h3 y' _ (Qn hy' h5)
   ·cases hk
 ·cases h
end Go.Rx
set_option linter.unusedVariables false
set_option linter.unusedSimpArgs false
namespace Go.Rx
open Go Go.Lv
variable {P : Program} {w w' : World} {L L' : List MD} {s : S} {σs : List Env} {σ : Env} {Z : Fix} {A A' : Reg} {n : Nat} {ops : Array Oper} {rest : List Oper} {K : Env → World → Prop}
variable {R : Type} {k : S → Option R} {r : R} {d : Option Nat} {ty : TypeId} {pos : String} {after : Array Edge}
theorem WL.Asd {o : Oper} {v : Value} {w' : World} (hg : o.guard = none) (hdn : Dx n o = true)
  (hx : (execOp (ev σ) o).run P w = .ok (.value v) w') (h : WL P n ops rest K (At8 σ o.dst v) w') : WL P n ops (o :: rest) K σ w := by
 intro ds a ha
 refine wpList_plain hg fun K' hK' => ?_
 unfold Oper.wp
 rw [ha.eval, hx]
 refine hK' _ _ ?_
 cases hd : o.dst with
 | none => rw [hd] at h; exact h _ _ (ha.Alm v)
 | some d =>
  rw [hd] at h
  unfold Dx at hdn
  rw [hd] at hdn
  exact h _ _ (ha.put hdn v)
def Anv (Z : Fix) (σs : List Env) (k : S → Option R) (r : R) (G : Prop) (A : Reg) (L : List MD) (it : List Item) (w : World) (σ' : Env) (w' : World) : Prop :=
 ∃ s' A' L', k s' = some r ∧ Rel Z s' σs A' L' σ' w' ∧ (G → Grow A L it w A' L' s'.it w')
abbrev Kh (P : Program) (n : Nat) (ops : Array Oper) (o : Oper) (Z : Fix) (s : S) (σs : List Env) (k : S → Option R) (r : R) (G : Prop) (A : Reg) (L : List MD) (σ : Env) (w : World) : Prop :=
 WL P n ops [o] (Anv Z σs k r G A L s.it w) σ w
theorem Br {o : Op} {p : PV} {val : Value} {G : Prop} (hr : Rel Z s σs A L σ w) (hd : Dx n ⟨d, o, ty, pos, after, none⟩ = true) (hx : XO P σ w o val) (hv : p.isV = true) (h : Cb (fun b => A b ∧ Z.R b) w L p val)
  (hk : k (s.Cq d p) = some r) : Kh P n ops ⟨d, o, ty, pos, after, none⟩ Z s σs k r G A L σ w := by
 refine WL.Asd rfl hd (hx _ _ _ _ _) (WL.nil ⟨_, A, L, hk, hr.Cq hv h, fun _ => ?_⟩)
 have : (s.Cq d p).it = s.it := by cases d <;> rfl
 rw [this]; exact .refl
theorem Mq {p : PV} {j : Int} {v : Value} {B : Reg} (h : Zy p = some j) (hv : Cb B w L p v) : ∃ q, v = .int q j := by
 unfold Zy at h
 split at h
 ·rename_i e x
  split at h
  ·cases h; exact ⟨_, Qc hv⟩
  ·cases h
 ·cases h
theorem Rt {p : PV} {j : Int} (h : Zy p = some j) : p.isV = true := by unfold Zy at h; split at h; rfl; cases h
theorem Amp {p : PV} {j : Int} {v : Value} {B : Reg} (h : asInt p = some j) (hv : Cb B w L p v) : v = iv j := by
 unfold asInt at h
 split at h
 ·rename_i e x
  split at h
  ·rename_i q y
   split at h
   ·cases h; exact Qc hv
   ·cases h
  ·cases h
 ·cases h
theorem Ape {p : PV} {j : Int} (h : asInt p = some j) : p.isV = true := by unfold asInt at h; split at h; rfl; cases h
theorem Ei {o : Option Operand} {dflt j : Int} {B : Reg} (hm : SlotsR B w L σ s.sl) (h : Ts s.sl o dflt = some j) : (∃ q, o.map (ev σ) = some (.int q j)) ∨ (o = none ∧ j = dflt) := by
 unfold Ts at h
 split at h
 ·cases h; exact .inr ⟨rfl, rfl⟩
 ·rename_i x
  obtain ⟨q, hq⟩ := Mq h (Gv hm x (Rt h))
  exact .inl ⟨q, by rw [Option.map_some, hq]⟩
theorem X.Avf {t : TypeId} {x ix : Operand} {l : List UInt8} {j : Int} {q : IntKind} {y : UInt8} (ht : P.underlying t = some .string) (hx : ev σ x = sv l) (hi : ev σ ix = .int q j) (hg : Al l j = some y) :
  XO P σ w (.index t x ix) (iv y) := fun _ _ _ _ _ => by
 obtain ⟨h1, h2, h3⟩ := Dh hg
 have h4 := run_index_string (P := P) w t ⟨l.toArray⟩ q j ht
 have h5 : 0 ≤ j ∧ j < (⟨l.toArray⟩ : ByteArray).size := by simp [ByteArray.size]; omega
 rw [dif_pos h5] at h4
 have h6 : (⟨l.toArray⟩ : ByteArray)[j.toNat]'(by simp [ByteArray.size]; omega) = y := by
  have e1 : l[j.toNat] = y := by rw [List.getElem?_eq_getElem h2] at h3; simpa using h3
  rw [← e1]
  rfl
 simp only [execOp, hx, hi, Sem.run_bind, h4, Result.andThen_ok, Sem.run_pure, Atv]
 rw [h6]
theorem Axe {t et : TypeId} {m : Nat} {e : ET} {x ix : Operand} {l : List e.T} {j : Int} {q : IntKind} {y : e.T} {cs : List Value} {B : Reg} (ht : P.underlying t = some (.array m et)) (hsz : SizeIs P et e.size)
  (hag : ∃ u, P.underlying et = some u ∧ aggB u = (e.pv y).isA) (h1 : (e.pv y).isA = false → e.size = 1) (hlen : l.length = m)
  (hx : ev σ x = .agg cs.toArray) (hl : Az (Aj B w e) l cs) (hi : ev σ ix = .int q j) (hg : Al l j = some y) : ∃ val, XO P σ w (.index t x ix) val ∧ Df B w L (e.pv y) val := by
 obtain ⟨h3, h4, h5⟩ := Dh hg
 obtain ⟨c1, c2, c3, he, h6, h7, _⟩ := Az.get (fun x c h => Aj.len h) hl h5
 have h8 : 0 ≤ j ∧ j < (m : Int) := by omega
 obtain ⟨u, hu, ha⟩ := hag
 have hc2 := h7.len
 cases hA : (e.pv y).isA with
 | true =>
  refine ⟨.agg c2.toArray, fun _ _ _ _ _ => ?_, by unfold Df; rw [hA]; exact ⟨c2, rfl, Tz.2 h7⟩⟩
  have e1 : (cs.drop (j.toNat * e.size)).take e.size = c2 := by rw [he, ← h6, ← hc2]; simp
  simp [execOp, hx, hi, Instr.index, asIntOf, run_underlying ht, h8, Aq hsz, asAgg, part, Bz hu (ha.trans hA), e1]
 | false =>
  rw [h1 hA] at hc2
  match c2, hc2 with
  | [v], _ =>
   refine ⟨v, fun _ _ _ _ _ => ?_, by unfold Df; rw [hA]; exact Tz.2 h7⟩
   have e1 : cs[j.toNat * e.size]? = some v := by rw [he, ← h6]; simp
   simp [execOp, hx, hi, Instr.index, asIntOf, run_underlying ht, h8, Aq hsz, asAgg, part, Bz hu (ha.trans hA), e1]
theorem Gt {t et : TypeId} {b o len cap z : Nat} {j : Int} {q : IntKind} {x ix : Operand} (ht : P.underlying t = some (.slice et)) (hsz : SizeIs P et z) (hx : ev σ x = .slice (some ⟨b, o, none⟩) len cap) (hi : ev σ ix = .int q j)
  (h0 : 0 ≤ j) (h1 : j < len) (w : World) : XO P σ w (.indexAddr t x ix) (.pointer (some ⟨b, o + j.toNat * z, none⟩)) := fun _ _ _ _ _ => by
 simp only [execOp, hx, hi, Instr.indexAt, Sem.run_bind, asIntOf, Sem.run_pure, Result.andThen_ok, run_underlying ht, h0, h1, and_self, if_true, Aq hsz, Fh]
theorem Tv {t et : TypeId} {b o m z : Nat} {j : Int} {q : IntKind} {x ix : Operand} (ht : P.underlying t = some (.array m et)) (hsz : SizeIs P et z) (hx : ev σ x = .pointer (some ⟨b, o, none⟩)) (hi : ev σ ix = .int q j)
  (h0 : 0 ≤ j) (h1 : j < m) (w : World) : XO P σ w (.indexAddr t x ix) (.pointer (some ⟨b, o + j.toNat * z, none⟩)) := fun _ _ _ _ _ => by
 simp only [execOp, hx, hi, Instr.indexAt, Instr.sureAddr, Sem.run_bind, asIntOf, Sem.run_pure, Result.andThen_ok, run_underlying ht, h0, h1, and_self, if_true, Aq hsz, Fh]
theorem Cc {t : TypeId} {i : TypeInfo} {z : Nat} (h : P.info? t = some i) (hz : Nat.beq i.size z = true) : SizeIs P t z := ⟨i, h, Be hz⟩
theorem Rel.base (hr : Rel Z s σs A L σ w) {i z : Nat} {E : TypeId} {v : Value} {cs : List Value} (h : L[i]? = some (.own z E v cs)) (hne : 0 < cs.length) : ∃ b len cap, v = .slice (some ⟨b, 0, none⟩) len cap ∧ cs.length = len * z := by
 obtain ⟨b, m, c, hv, _⟩ := St.Apl hr (hr.Dn h) hne
 obtain ⟨p, len, cap, h1, h2, _⟩ := hr.Hn h
 subst hv; cases h1
 exact ⟨b, m, c, rfl, h2⟩
theorem Wy (st : Step) : ∀ (p : List Step), Ag (p ++ [st]) = Ag p + Ac8 st
 | [] => by simp [Ag]
 | a :: p => by simp [Ag, Wy st p, Nat.add_assoc]
theorem Ast {t : TypeId} {x ix : Operand} {G : Prop} (hr : Rel Z s σs A L σ w) (hd : Dx n ⟨d, .indexAddr t x ix, ty, pos, after, none⟩ = true) (h : Aij P s d t x ix k = some r) :
  Kh P n ops ⟨d, .indexAddr t x ix, ty, pos, after, none⟩ Z s σs k r G A L σ w := by
 have hm := hr.mem
 unfold Aij at h
 split at h
 ·cases h
 ·rename_i j hj
  obtain ⟨q, hix⟩ := Mq hj (Gv hm.sl ix (Rt hj))
  split at h
  ·rename_i et ht
   split at h
   ·cases h
   ·rename_i inf hinf
    split at h
    ·rename_i e0 l0 hx
     split at h
     ·rename_i e l
      obtain ⟨hb, h⟩ := Ak h
      simp only [Bool.and_eq_true] at hb
      obtain ⟨y, hy, h⟩ := bind_some h
      obtain ⟨hj0, hj1, hj2⟩ := Dh hy
      obtain ⟨c0, h1, h2⟩ := Kb (Bl hm.sl hx rfl)
      obtain ⟨p, len, cap, h3, h4, h5, h6, h7⟩ := h1
      have hlen := h2.len fun x c h => Aj.len h
      have hz : 0 < e.size := by have := Nat.le_of_ble_eq_true hb.2; omega
      have hl : len = l.length := Nat.eq_of_mul_eq_mul_right hz (h4.symm.trans hlen)
      subst hl
      obtain ⟨b, off, arr, T, fr, rfl, hB, hbl, hcap, hc⟩ := h7 (by omega)
      obtain ⟨c1, c2, c3, he, h8, h9, _⟩ := Az.get (fun x c h => Aj.len h) h2 hj2
      have h10 : c2.length = e.size := h9.len
      have h11 : (j.toNat + 1) * e.size ≤ l.length * e.size := Nat.mul_le_mul_right _ hj1
      rw [Nat.succ_mul] at h11
      have hp : Ao1 (fun b => A b ∧ Z.R b) w (.pointer (some ⟨b, off + j.toNat * e.size, none⟩)) c2 := by
       refine ⟨b, off + j.toNat * e.size, arr, T, fr, rfl, hB, hbl, fun q hq => ?_⟩
       rw [Nat.add_assoc, hc _ (by omega), he, List.getElem?_append_right (by omega), h8, show j.toNat * e.size + q - j.toNat * e.size = q by omega, List.getElem?_append_left hq]
      have hvr : Cb (fun b => A b ∧ Z.R b) w L (.rptr (e.pv y)) (.pointer (some ⟨b, off + j.toNat * e.size, none⟩)) := ⟨_, c2, rfl, hp, Tz.2 h9⟩
      exact Br hr hd (Gt ht (Cc hinf hb.1) h3 hix (by omega) (by omega) w) rfl hvr h
     ·cases h
    ·rename_i i hx
     split at h
     ·rename_i E e l hi
      obtain ⟨hb, h⟩ := Ak h
      simp only [Bool.and_eq_true] at hb
      obtain ⟨y, hy, h⟩ := bind_some h
      obtain ⟨hj0, hj1, hj2⟩ := Dh hy
      obtain ⟨v, cs, h1, h2⟩ := hm.arr hi
      obtain ⟨z', E', c', h3⟩ := Ms (Bl hm.sl hx rfl)
      rw [h1] at h3; cases h3
      have hlen := h2.len fun x c h => Aj.len h
      have hz : 0 < e.size := by have := Nat.le_of_ble_eq_true hb.2; omega
      have hpos : 0 < cs.length := by rw [hlen]; exact Nat.mul_pos (by omega) hz
      obtain ⟨b, len, cap, h4, h5⟩ := hr.base h1 hpos
      have hl : len = l.length := Nat.eq_of_mul_eq_mul_right hz (h5.symm.trans hlen)
      subst hl
      have := Gt ht (Cc hinf hb.1) h4 hix (by omega) (by omega) w
      refine Br hr hd this rfl ?_ h
      rw [show (0 : Nat) + j.toNat * e.size = Ag [.idx j e.size] by simp [Ag, Ac8]]
      refine Mt h1 ?_
      rw [h4]; rfl
     ·cases h
    ·rename_i o i p e lo n' hx
     obtain ⟨hb, h⟩ := Ak h
     simp only [Bool.and_eq_true] at hb
     obtain ⟨_, hok, h⟩ := bind_some h
     have hj' : 0 ≤ j ∧ j < n' := of_decide_eq_true (Ir hok)
     obtain ⟨md, v1, h3, h4, k1, k2, ⟨pt, cap, k3, k4, k5, k6⟩, _⟩ := Bl hm.sl hx rfl
     have h6 : ev σ x = v1 := by simpa using h4
     obtain ⟨b, e1, rfl⟩ := k6 (by omega)
     have := Gt ht (Cc hinf hb.1) (h6.trans k3) hix hj'.1 (by omega) w
     refine Br hr hd this rfl ?_ h
     rw [show Ag p + lo.toNat * e.size + j.toNat * e.size = Ag (p ++ [.idx (lo + j) e.size]) by
      rw [Wy, Nat.add_assoc, ← Nat.add_mul]
      show _ = Ag p + (lo + j).toNat * e.size
      rw [Int.toNat_add k1 hj'.1]]
     exact Mt h3 e1
    ·cases h
  ·rename_i m et ht
   split at h
   ·cases h
   ·rename_i inf hinf
    split at h
    ·rename_i i p hx
     split at h
     ·rename_i T v hi
      split at h
      ·rename_i e0 l0 hg
       split at h
       ·rename_i m' e l
        obtain ⟨hb, h⟩ := Ak h
        simp only [Bool.and_eq_true] at hb
        obtain ⟨y, hy, h⟩ := bind_some h
        obtain ⟨hj0, hj1, hj2⟩ := Dh hy
        obtain ⟨b, cells, h1, h2⟩ := hm.box hi
        obtain ⟨c1, c2, c3, he, h3, h4⟩ := Wv hg h2
        obtain ⟨md, b', h5, h6, h7⟩ := Jb (Bl hm.sl hx rfl)
        rw [h1] at h5; cases h5; cases h6
        have hl : l.length = m := (show l.length = m' ∧ _ from h4).1.trans (Be hb.2)
        have := Tv ht (Cc hinf hb.1.1) h7 hix (by omega) (by omega) w
        refine Br hr hd this rfl ?_ h
        rw [show Ag p + j.toNat * e.size = Ag (p ++ [.idx j e.size]) by simp [Pw, Ag, Ac8]]
        exact Mt h1 rfl
       ·cases h
      ·cases h
     ·cases h
    ·cases h
  ·cases h
def MD.cells : MD → List Value | .box _ c _ => c | .own _ _ _ c => c | .dead => []
theorem Rel.cells (hr : Rel Z s σs A L σ w) {i b : Nat} {md : MD} (h : L[i]? = some md) (hb : md.base = some b) : ∀ j, j < md.cells.length → w.cell? ⟨b, j, none⟩ = md.cells[j]? := by
 intro j hj
 cases md with
 | dead => cases hb
 | box b' cells T => cases hb; rw [cell_of (St.box hr (hr.Dn h))]; simp [MD.cells]
 | own z E v cells =>
  obtain ⟨b', m, c, hv, hs'⟩ := St.Apl hr (hr.Dn h) (by simp [MD.cells] at hj; omega)
  subst hv
  cases hb
  obtain ⟨o, rfl, h2⟩ := Mobs.mem (A := A) hs'.mobs (i := i) (m := .at_ b z E m c cells) (by rw [List.getElem?_set_self (by simpa using (List.getElem?_eq_some_iff.1 h).1)])
  obtain ⟨_, len, cap, e, h3, _, _, _, h6⟩ := h2
  obtain ⟨arr, fr, _, hb, _, _, hc⟩ := h6 b rfl
  rw [cell_of hb]
  exact hc j (by rw [← h3]; exact hj)
theorem Abs {t : TypeId} {u : PV} {x : Operand} {c2 : List Value} {b off : Nat} {B : Reg} (h : OkLoad P t u) (hu : EncC B w L u c2)
  (hx : ev σ x = .pointer (some ⟨b, off, none⟩)) : ∃ val, Df B w L u val ∧ ∀ w' : World, (∀ j, j < c2.length → w'.cell? ⟨b, off + j, none⟩ = c2[j]?) → XO P σ w' (.load t x) val := by
 obtain ⟨d, hd, ha⟩ := h.agg
 have hlen := hu.len
 cases hA : u.isA with
 | true =>
  refine ⟨.agg c2.toArray, by unfold Df; rw [hA]; exact ⟨c2, rfl, hu⟩, fun w' hc _ _ _ _ _ => ?_⟩
  have h1 := Er (P := P) (w := w') (b := b) (off := off) c2 hc
  rw [hlen] at h1
  simp only [execOp, hx, Instr.loadAt, Instr.sureAddr, Sem.run_bind, Sem.run_pure, Result.andThen_ok, loadVar, Bz hd (ha.trans hA), if_true, Aq h.size, h1]
 | false =>
  have h1 := h.one hA
  rw [h1] at hlen
  match c2, hlen with
  | [v], _ =>
   refine ⟨v, by unfold Df; rw [hA]; exact hu, fun w' hc _ _ _ _ _ => ?_⟩
   have h2 : w'.cell? ⟨b, off, none⟩ = some v := by simpa using hc 0 (by simp)
   simp only [execOp, hx, Instr.loadAt, Instr.sureAddr, Sem.run_bind, Sem.run_pure, Result.andThen_ok, loadVar, Bz hd (ha.trans hA), Bool.false_eq_true, if_false, Mj h2]
theorem Anf {t : TypeId} {u : PV} {x : Operand} {c2 : List Value} {b off : Nat} {B : Reg} (h : OkLoad P t u) (hu : EncC B w L u c2) (hc : ∀ j, j < c2.length → w.cell? ⟨b, off + j, none⟩ = c2[j]?)
  (hx : ev σ x = .pointer (some ⟨b, off, none⟩)) : ∃ val, Df B w L u val ∧ XO P σ w (.load t x) val := by
 obtain ⟨val, h1, h2⟩ := Abs (P := P) (σ := σ) h hu hx
 exact ⟨val, h1, h2 w hc⟩
def Ayk : Item → MD → Prop | .box T _, md => ∃ b c, md = .box b c T | .arr E e _, md => ∃ v c, md = .own e.size E v c | .dead, _ => False
def Iz (off : Nat) (ns : List Value) : MD → MD → Prop
 | .box b c T, md' => md' = .box b (Am c off ns) T
 | .own z E v c, md' => md' = .own z E v (Am c off ns)
 | .dead, _ => False
theorem MemR.root {B : Reg} (hm : MemR B w L s σs σ) {i : Nat} {md : MD} (h : L[i]? = some md) (hd : Bb s.it i ≠ .dead) : Aeo B w L (Bb s.it i) md.cells ∧ Ayk (Bb s.it i) md := by
 obtain ⟨md', h1, h2⟩ := hm.item rfl hd
 rw [h] at h1; cases h1
 revert h2 hd
 cases Bb s.it i with
 | dead => intro hd _; exact absurd rfl hd
 | box T v =>
  intro _ h2
  cases md with
  | box b c T' => obtain ⟨rfl, h3⟩ := h2; exact ⟨h3, b, c, rfl⟩
  | _ => exact h2.elim
 | arr E e l =>
  intro _ h2
  cases md with
  | own z E' v c => obtain ⟨rfl, rfl, h3⟩ := h2; exact ⟨h3, v, c, rfl⟩
  | _ => exact h2.elim
theorem Axm {t : TypeId} {x : Operand} {G : Prop} (hr : Rel Z s σs A L σ w) (hd : Dx n ⟨d, .load t x, ty, pos, after, none⟩ = true) (h : As2 P s d t x k = some r) :
  Kh P n ops ⟨d, .load t x, ty, pos, after, none⟩ Z s σs k r G A L σ w := by
 have hm := hr.mem
 unfold As2 at h
 split at h
 ·rename_i i p hx
  obtain ⟨md, b, h1, h2, h3⟩ := Jb (Bl hm.sl hx rfl)
  have hne : Bb s.it i ≠ .dead := by intro e; rw [e] at h; simp [getRoot] at h
  obtain ⟨h4, _⟩ := hm.root h1 hne
  obtain ⟨u, c1, c2, c3, hk, he, h5, h6⟩ := Amh h h4
  obtain ⟨hb, hk⟩ := Ak hk
  have hc := hr.cells h1 h2
  obtain ⟨val, h7, h8⟩ := Anf (P := P) (σ := σ) (x := x) (b := b) (off := Ag p) (Fz hb) h6 (fun j hj => by
   rw [hc _ (by rw [he]; simp; omega), he, List.getElem?_append_right (by omega), h5, show Ag p + j - Ag p = j by omega, List.getElem?_append_left hj]) h3
  obtain ⟨hv, hv'⟩ := Ea h7
  exact Br hr hd h8 hv hv' hk
 ·cases h
mutual
theorem EncC.one {B : Reg} : ∀ {p : PV} {cs : List Value}, EncC B w L p cs → L.all (fun m => match m with | .own _ _ v _ => v.oneCell' | _ => true) = true → ∀ v ∈ cs, v.oneCell' = true
 | .val e x, cs, h, _, v, hv => Aj.one (show Aj B w e x cs from h) v hv
 | .agg l, cs, h, hL, v, hv => EncC.Adh (show EncC.go B w L l cs from h) hL v hv
 | .tup _, _, h, _, _, _ => h.elim
 | .nils, cs, h, _, v, hv => by rw [show cs = _ from h] at hv; simp at hv; subst hv; rfl
 | .own i, cs, ⟨z, E, u, c, h1, h2⟩, hL, v, hv => by
  rw [h2] at hv; simp at hv; subst hv
  exact List.all_eq_true.1 hL _ (List.mem_of_getElem? h1)
 | .ptr i p, cs, ⟨_, _, _, _, h⟩, _, v, hv => by rw [h] at hv; simp at hv; subst hv; rfl
 | .rptr q, cs, ⟨pv, _, h, ⟨_, _, _, _, _, e, _⟩, _⟩, _, v, hv => by rw [h] at hv; simp at hv; subst hv; rw [e]; rfl
 | .fn f caps, cs, ⟨_, h, _⟩, _, v, hv => by rw [h] at hv; simp at hv; subst hv; rfl
 | .cst u, cs, h, _, v, hv => by rw [show cs = _ from h.1] at hv; simp at hv; subst hv; exact h.2
 | .any, cs, ⟨u, h, h'⟩, _, v, hv => by rw [h] at hv; simp at hv; subst hv; exact h'
 | .view _ _ _ _ _ _, cs, ⟨_, u, _, h, _, _, ⟨_, _, e, _⟩, _⟩, _, v, hv => by rw [h] at hv; simp at hv; subst hv; rw [e]; rfl
 | .gd _ _ _, _, h, _, _, _ => h.elim
 | .off, _, h, _, _, _ => h.elim
 | .undef, _, h, _, _, _ => h.elim
theorem EncC.Adh {B : Reg} : ∀ {l : List PV} {cs : List Value}, EncC.go B w L l cs → L.all (fun m => match m with | .own _ _ v _ => v.oneCell' | _ => true) = true → ∀ v ∈ cs, v.oneCell' = true
 | [], cs, h, _, v, hv => by rw [show cs = [] from h] at hv; simp at hv
 | a :: q, cs, ⟨c1, c2, e, h1, h2⟩, hL, v, hv => by
  subst e
  rcases List.mem_append.1 hv with hv | hv
  ·exact EncC.one h1 hL v hv
  ·exact EncC.Adh h2 hL v hv
end
theorem Rel.Adh (hr : Rel Z s σs A L σ w) : L.all (fun m => match m with | .own _ _ v _ => v.oneCell' | _ => true) = true := by
 refine List.all_eq_true.2 fun m hm => ?_
 obtain ⟨i, hi, he⟩ := List.getElem_of_mem hm
 cases m with
 | own z E v c =>
  obtain ⟨p, len, cap, rfl, _⟩ := hr.Hn (i := i) (by rw [List.getElem?_eq_getElem hi, he])
  rfl
 | _ => rfl
theorem Qo {p : PV} {v : Value} {B : Reg} (hr : Rel Z s σs A L σ w) (h : Df B w L p v) : ∃ cs : List Value, v.cells = cs.toArray ∧ EncC B w L p cs := by
 unfold Df asV at h
 split at h
 ·obtain ⟨cs, rfl, h⟩ := h; exact ⟨cs, rfl, h⟩
 ·refine ⟨[v], ?_, h⟩
  have := h.one hr.Adh v (.head _)
  cases v <;> first | rfl | cases this
theorem LeL.own {i z : Nat} {E : TypeId} {v : Value} {cs cs' : List Value} (h : L[i]? = some (.own z E v cs)) : LeL L (L.set i (.own z E v cs')) :=
 LeL.set h (fun _ _ _ _ e => by cases e; exact ⟨_, _, _, rfl⟩) (fun b hb => by
  unfold MD.base at hb ⊢
  split at hb
  ·rename_i e; cases e
  ·rename_i e; cases e; exact hb
  ·cases hb)
theorem LeL.box {i b : Nat} {T : TypeId} {cs cs' : List Value} (h : L[i]? = some (.box b cs T)) : LeL L (L.set i (.box b cs' T)) :=
 LeL.set h (fun _ _ _ _ e => by cases e) (fun b hb => hb)
theorem Apv {i : Nat} {md : MD} (h : L[i]? = some md) : (L.map MD.Dn)[i]? = some md.Dn := by simp [h]
theorem Auq {t : TypeId} {a x : Operand} {i b off z : Nat} {md : MD} {v : Value} {ns : List Value} {K : Env → World → Prop} {F : List Fact} (hr : St A w F (L.map MD.Dn)) (h : L[i]? = some md) (hb : md.base = some b)
  (hsz : SizeIs P t z) (ha : ev σ a = .pointer (some ⟨b, off, none⟩)) (hx : ev σ x = v) (hv : v.cells = ns.toArray) (hl : ns.length = z) (h1 : ns.all (·.oneCell') = true) (hle : off + z ≤ md.cells.length) (hz : 0 < z)
  (hK : ∀ (w' : World) (md' : MD), St A w' F ((L.map MD.Dn).set i md'.Dn) → Iz off ns md md' → K σ w') :
  WL P n ops [⟨none, .store t a x, ty, pos, after, none⟩] K σ w := by
 cases md with
 | dead => cases hb
 | box b' cells T =>
  cases hb
  exact WL.At3 hr (Apv h) hsz ha hx hv hl h1 (by simpa [Nat.ble_eq, MD.cells] using hle) rfl rfl (fun w' hs' => WL.nil (hK w' (.box b (Am cells off ns) T) hs' rfl))
 | own z' E u cells =>
  obtain ⟨b', m, c, hu, hs'⟩ := St.Apl hr (Apv h) (by simp [MD.cells] at hle; omega)
  subst hu
  cases hb
  have hlen : i < (L.map MD.Dn).length := by simpa using (List.getElem?_eq_some_iff.1 h).1
  have hL1 : ((L.map MD.Dn).set i (.at_ b z' E m c cells))[i]? = some (.at_ b z' E m c cells) := by rw [List.getElem?_set_self hlen]
  refine WL.Au5 hs' hL1 hsz ha hx hv hl h1 hle rfl rfl (fun w' hs2 => WL.nil ?_)
  have hs3 := hs2.Az9 (i := i) (b := b) (s := z') (m := m) (c := c) (E := E) (cs := Am cells off ns) (by rw [List.getElem?_set_self (by simpa using hlen)])
  rw [List.set_set, List.set_set] at hs3
  exact hK w' (.own z' E (.slice (some ⟨b, 0, none⟩) m c) (Am cells off ns)) hs3 rfl
end Go.Rx
set_option linter.unusedVariables false
set_option linter.unusedSimpArgs false
namespace Go.Rx
open Go Go.Lv
variable {P : Program} {B : Reg} {w w' : World} {L L' : List MD} {s : S} {σs : List Env} {σ : Env} {Z : Fix} {A A' : Reg} {n : Nat} {ops : Array Oper} {rest : List Oper} {K : Env → World → Prop}
variable {R : Type} {k : S → Option R} {r : R} {d : Option Nat} {ty : TypeId} {pos : String} {after : Array Edge}
structure Frz (B : Reg) (w : World) (L : List MD) (i : Nat) (m : PV) : Prop where
 enc : ∀ z E v c, L[i]? = some (.own z E v c) → EncC B w (L.set i .dead) m [v]
 isA : m.isA = false
 isV : m.isV = true
theorem Aod {i : Nat} {m p : PV} (hm : m.isA = false) : (subst i m p).isA = p.isA := by
 cases p <;> try rfl
 ·rename_i j
  simp only [subst]
  cases hb : Nat.beq i j with
  | true => exact hm
  | false => rfl
 ·rename_i j q
  simp only [subst]
  cases hb : Nat.beq i j <;> rfl
 ·rename_i o j q e lo n
  simp only [subst]
  cases hb : Nat.beq i j <;> rfl
theorem Ac0 {i j : Nat} (h : Nat.beq i j = false) : (L.set i .dead)[j]? = L[j]? := by
 rw [List.getElem?_set_ne]
 intro e; subst e; simp at h
mutual
theorem Vn {i : Nat} {m : PV} (hf : Frz B w L i m) : ∀ {p : PV} {cs : List Value}, EncC B w L p cs → EncC B w (L.set i .dead) (subst i m p) cs
 | .val _ x, cs, h => h
 | .agg q, cs, h => Al0 hf (show EncC.go B w L q cs from h)
 | .tup _, _, h => h.elim
 | .nils, cs, h => h
 | .own j, cs, ⟨z, E, v, c, h1, h2⟩ => by
  simp only [subst]
  cases hb : Nat.beq i j with
  | true =>
   have := Be hb
   subst this
   rw [h2]; exact hf.enc _ _ _ _ h1
  | false => exact ⟨z, E, v, c, by rw [Ac0 hb]; exact h1, h2⟩
 | .ptr j q, cs, ⟨md, b, h1, h2, h3⟩ => by
  simp only [subst]
  cases hb : Nat.beq i j with
  | true => exact ⟨_, h3, rfl⟩
  | false => exact ⟨md, b, by rw [Ac0 hb]; exact h1, h2, h3⟩
 | .view o j q e lo n, cs, ⟨md, v, h1, h2, h3⟩ => by
  simp only [subst]
  cases hb : Nat.beq i j with
  | true =>
   obtain ⟨_, _, ⟨pt, cap, e', _⟩, _⟩ := h3
   exact ⟨v, h2, by rw [e']; rfl⟩
  | false => exact ⟨md, v, by rw [Ac0 hb]; exact h1, h2, h3⟩
 | .rptr v, cs, ⟨pv, c0, h1, h2, h3⟩ => by
  exact ⟨pv, c0, h1, h2, Vn hf h3⟩
 | .fn f caps, cs, ⟨vs, h1, h2⟩ => ⟨vs, h1, Afl hf h2⟩
 | .cst v, cs, h => h
 | .any, cs, h => h
 | .gd _ _ _, _, h => h.elim
 | .off, _, h => h.elim
 | .undef, _, h => h.elim
theorem Al0 {i : Nat} {m : PV} (hf : Frz B w L i m) : ∀ {q : List PV} {cs : List Value}, EncC.go B w L q cs → EncC.go B w (L.set i .dead) (subst.go i m q) cs
 | [], cs, h => h
 | a :: q, cs, ⟨c1, c2, e', h1, h2⟩ => ⟨c1, c2, e', Vn hf h1, Al0 hf h2⟩
theorem Afl {i : Nat} {m : PV} (hf : Frz B w L i m) : ∀ {q : List PV} {vs : List Value}, EncVs B w L q vs → EncVs B w (L.set i .dead) (subst.go i m q) vs
 | [], vs, h => h
 | a :: q, vs, ⟨v, vs', e', h1, h2⟩ => ⟨v, vs', e', by rw [Aod hf.isA]; exact h1.mono fun c h => Vn hf h, Afl hf h2⟩
end
theorem Aqq {i : Nat} {m : PV} (hf : Frz B w L i m) {p : PV} {v : Value} (h : Df B w L p v) : Df B w (L.set i .dead) (subst i m p) v := by
 unfold Df; rw [Aod hf.isA]; exact asV.mono (fun c h => Vn hf h) h
theorem Amt {i : Nat} {m : PV} (hf : Frz B w L i m) {p : PV} {v : Value} (h : Cb B w L p v) : Cb B w (L.set i .dead) (subst i m p) v := by
 cases hp : p.isP with
 | true => exact (Ea (Aqq hf ((Aa4 hp).1 h))).2
 | false =>
  cases p
  case tup q => obtain ⟨vs, h1, h2⟩ := h; exact ⟨vs, h1, Afl hf h2⟩
  case undef => exact (show False from h).elim
  case off => exact (show False from h).elim
  case gd => exact (show False from h).elim
  all_goals cases hp
theorem Aqu {i : Nat} {m : PV} (hf : Frz B w L i m) {t : Nat} {p : PV} (h : Dj B w L σ t p) : Dj B w (L.set i .dead) σ t (subst i m p) := by
 cases hv : p.isV with
 | true =>
  have h1 := Amt hf ((Dj.iff hv).1 h)
  have h2 : (subst i m p).isV = true := by
   cases p <;> first | rfl | cases hv | skip
   ·rename_i j; simp only [subst]; cases Nat.beq i j; rfl; exact hf.isV
   ·rename_i j q; simp only [subst]; cases Nat.beq i j <;> rfl
   ·rename_i o j q e lo n; simp only [subst]; cases Nat.beq i j <;> rfl
  exact (Dj.iff h2).2 h1
 | false =>
  rcases Kc hv with rfl | rfl | ⟨j, u, q, rfl⟩
  ·exact trivial
  ·exact h
  ·obtain ⟨b, h1, h2, h3⟩ := h
   exact ⟨b, h1, fun e => Amt hf (h2 e), h3⟩
theorem Agr {i : Nat} {m : PV} (hf : Frz B w L i m) {sl : Slots} (h : SlotsR B w L σ sl) : SlotsR B w (L.set i .dead) σ (Atu i m sl) := by
 intro p hp
 obtain ⟨q, hq, rfl⟩ := List.mem_map.1 hp
 exact Aqu hf (h q hq)
theorem Ah5 {i : Nat} {m : PV} (hf : Frz B w L i m) : ∀ {σs : List Env} {st : List Slots}, StackR B w L σs st → StackR B w (L.set i .dead) σs (st.map (Atu i m))
 | [], [], h => h
 | _ :: _, _ :: _, ⟨h1, h2⟩ => ⟨Agr hf h1, Ah5 hf h2⟩
theorem Aq9 {i : Nat} {m : PV} (hf : Frz B w L i m) {a : Item} {md : MD} (h : ItemR B w L a md) : ItemR B w (L.set i .dead) (Ato i m a) md := by
 cases a <;> cases md <;> first
  | exact h
  | exact ⟨h.1, Vn hf h.2⟩
theorem MemR.subst (hm : MemR B w L s σs σ) {i : Nat} {m : PV} (hf : Frz B w L i m) : MemR B w (L.set i .dead) ((s.Jl i .dead).sub i m) σs σ := by
 refine ⟨⟨?_, ?_⟩, Agr hf hm.sl, Ah5 hf hm.stk⟩
 ·simp [S.sub, S.Jl, Adc, hm.it.1]
 ·intro j a md g1 g2
  simp only [S.sub, S.Jl, List.getElem?_map, Option.map_eq_some_iff] at g1
  obtain ⟨a0, g3, rfl⟩ := g1
  rcases Ac7 g3 with ⟨rfl, rfl⟩ | ⟨g4, g5⟩
  ·trivial
  ·rw [List.getElem?_set_ne (Ne.symm g4)] at g2
   exact Aq9 hf (hm.it.2 j a0 md g5 g2)
theorem Afx (hr : Rel Z s σs A L σ w) {i : Nat} {s' : S} (h : s.freeze i = some s') : ∃ A', Rel Z s' σs A' (L.set i .dead) σ w ∧ ∃ E e l, Bb s.it i = .arr E e l ∧ s' = (s.Jl i .dead).sub i (.val (.list e) l) := by
 unfold S.freeze at h
 split at h
 ·rename_i E e l hi
  cases h
  have hm := hr.mem
  obtain ⟨v, cs, h1, h2⟩ := hm.arr hi
  have hR : ∀ b, ¬ A b → Z.R b := fun b hb => by
   rcases Nat.lt_or_ge b Z.w0.heap.size with hlt | hge
   ·have hold := (hr.fact 1 (f := .old Z.M Z.w0) rfl).2 b hlt
    exact Z.mod b (Classical.byContradiction fun hM => hb (hold hM).1)
   ·exact Z.new b hge
  obtain ⟨A', hA, hs'⟩ := St.freeze hr (hr.Dn h1) rfl Z.R hR
  have hs2 := Mobs.Ade (hs'.Apq 1 0) (Vx (m' := MD.dead.Dn) (hr.Dn h1))
  have hm2 : MemR (fun b => A' b ∧ Z.R b) w L s σs σ := hs2.fact 1 rfl
  have hrd : Rd (fun b => A' b ∧ Z.R b) w e.size v cs := hs2.fact 0 (f := .rd Z.R e.size v cs) rfl
  have hall := h2.mono (g := Aj (fun b => A' b ∧ Z.R b) w e) fun x c h => Aj.step (fun b hb => ⟨hA b hb.1, hb.2⟩) (fun _ _ => rfl) h
  have hf : Frz (fun b => A' b ∧ Z.R b) w L i (.val (.list e) l) := ⟨fun z E' v' c' h => by rw [h1] at h; cases h; exact ⟨v, cs, rfl, hrd, hall⟩, rfl, rfl⟩
  exact ⟨A', Rel.as hs2 (i := 2) rfl (hm2.subst hf) (by rw [List.map_set]), E, e, l, hi, rfl⟩
 ·cases h
theorem Gh : ∀ {is : List Nat} {s s' : S} {A : Reg} {L : List MD}, Rel Z s σs A L σ w → s.Ki is = some s' → ∃ A' L', Rel Z s' σs A' L' σ w ∧ (is = [] → s' = s ∧ A' = A ∧ L' = L)
 | [], s, s', A, L, hr, h => by simp only [S.Ki, Option.some.injEq] at h; subst h; exact ⟨A, L, hr, fun _ => ⟨rfl, rfl, rfl⟩⟩
 | i :: is, s, s', A, L, hr, h => by
  simp only [S.Ki] at h
  split at h
  ·obtain ⟨A', L', h1, _⟩ := Gh hr h; exact ⟨A', L', h1, fun e => by cases e⟩
  ·cases h
  ·split at h
   ·rename_i s1 h1
    obtain ⟨A1, h2, _⟩ := Afx hr h1
    obtain ⟨A', L', h3, _⟩ := Gh h2 h
    exact ⟨A', L', h3, fun e => by cases e⟩
   ·cases h
theorem Aog {p : PV} (h : Akz p = true) : p.isP = true := by cases p <;> first | rfl | cases h
theorem We {B : Reg} {x : Operand} (hm : SlotsR B w L σ s.sl) (h : (Cd s.sl x).isP = true) : Df B w L (Cd s.sl x) (ev σ x) := (Aa4 h).1 (Gv hm x (PV.Aoa h))
theorem Aqb {a x : Operand} {s' : S} (hr : Rel Z s σs A L σ w) (h : Ald s a x = some s') : ∃ A' L', Rel Z s' σs A' L' σ w := by
 unfold Ald at h
 split at h
 ·split at h
  ·obtain ⟨A', L', h1, _⟩ := Gh hr h; exact ⟨A', L', h1⟩
  ·cases h; exact ⟨A, L, hr⟩
 ·cases h
theorem Aeo.step {B B' : Reg} {w w' : World} (hb : ∀ b, B b → B' b) (hs : Same B w w') (hl : LeL L L') {a : Item} {cs : List Value} (h : Aeo B w L a cs) : Aeo B' w' L' a cs := by
 cases a with
 | dead => exact h
 | box T v => exact EncC.step hb hs hl h
 | arr E e l => exact Az.mono (fun x c h => Aj.step hb hs h) h
def Alg (R : Reg) (L : List MD) (a : Item) (cs : List Value) : Fact where
 holds A w := Aeo (fun b => A b ∧ R b) w L a cs
 step h ha hs _ := h.step (fun b ⟨h1, h2⟩ => ⟨ha b h1, h2⟩) (fun b ⟨h1, _⟩ => hs b h1) (.refl L)
theorem Avr {t : TypeId} {a x : Operand} (hr : Rel Z s σs A L σ w) (h : Apw P s t a x k = some r) :
  Kh P n ops ⟨none, .store t a x, ty, pos, after, none⟩ Z s σs k r False A L σ w := by
 unfold Apw at h
 split at h
 ·cases h
 ·rename_i s1 hs1
  obtain ⟨A1, L1, hr1⟩ := Aqb hr hs1
  have hm := hr1.mem
  split at h
  ·rename_i i p ha
   split at h
   ·rename_i inf hinf
    obtain ⟨hb, h⟩ := Ak h
    simp only [Bool.and_eq_true] at hb
    obtain ⟨md, b, h1, h2, h3⟩ := Jb (Bl hm.sl ha rfl)
    obtain ⟨ns, h4, h5⟩ := Qo hr1 (We hm.sl (Aog hb.1.1))
    have hne : Bb s1.it i ≠ .dead := by intro e; rw [e] at h; simp [Aky] at h
    obtain ⟨h6, h7⟩ := hm.root h1 hne
    obtain ⟨a', hk, h8, h9, h10⟩ := Asj h5 h h6
    have hlen := h5.len
    have hz := Be hb.1.2
    have hz0 : 0 < inf.size := by simpa [Nat.blt_eq] using hb.2
    have hrF := St.Age (f := Alg Z.R L1 a' (Am md.cells (Ag p) ns)) hr1 h9
    refine Auq hrF h1 h2 ⟨inf, hinf, rfl⟩ h3 rfl h4 (hlen.trans hz.symm) (List.all_eq_true.2 (h5.one hr1.Adh)) (by rw [hz, ← hlen]; exact h8) hz0 (fun w' md' hs' hmd => ?_)
    have h11 : Aeo (fun b => A1 b ∧ Z.R b) w' L1 a' (Am md.cells (Ag p) ns) := hs'.fact 0 rfl
    have hs2 := hs'.Aka
    revert h7 h10
    cases hi : Bb s1.it i with
    | dead => exact absurd hi hne
    | box T v0 =>
     rintro ⟨b0, c0, rfl⟩ h10
     simp only [Iz] at hmd; subst hmd
     have key := LeL.box (cs' := Am (MD.box b0 c0 T).cells (Ag p) ns) h1
     refine ⟨_, A1, _, hk, Rel.change hs2 h1 key ?_, fun h => h.elim⟩
     cases a' with
     | box T' v' => simp only [sameKind] at h10; subst h10; exact ⟨rfl, EncC.step (fun _ h => h) (fun _ _ => rfl) key h11⟩
     | dead => exact h11.elim
     | arr _ _ _ => exact h10.elim
    | arr E e l =>
     rintro ⟨v0, c0, rfl⟩ h10
     simp only [Iz] at hmd; subst hmd
     have key := LeL.own (cs' := Am (MD.own e.size E v0 c0).cells (Ag p) ns) h1
     refine ⟨_, A1, _, hk, Rel.change hs2 h1 key ?_, fun h => h.elim⟩
     cases a' with
     | arr E' e' l' => obtain ⟨rfl, rfl⟩ := h10; exact ⟨rfl, rfl, h11⟩
     | dead => exact h11.elim
     | box _ _ => exact h10.elim
   ·cases h
  ·cases h
end Go.Rx
set_option linter.unusedVariables false
set_option linter.unusedSimpArgs false
namespace Go.Rx
open Go Go.Lv
variable {P : Program} {B : Reg} {w w' : World} {L L' : List MD} {s : S} {σs : List Env} {σ : Env} {Z : Fix} {A A' : Reg} {n : Nat} {ops : Array Oper} {rest : List Oper} {K : Env → World → Prop}
variable {R : Type} {k : S → Option R} {r : R} {d : Option Nat} {ty : TypeId} {pos : String} {after : Array Edge}
theorem Qd {t : TypeId} {p : PV} (h : zeroOf P t = some p) : ∃ z, (∃ i, P.info? t = some i ∧ i.zero = some z) ∧ ∀ (B : Reg) (w : World) (L : List MD), EncC B w L p z.cells.toList := by
 unfold zeroOf at h
 split at h
 ·rename_i i hi
  split at h
  ·rename_i z hz
   exact ⟨z, ⟨i, hi, hz⟩, fun B w L => Aff h⟩
  ·cases h
 ·cases h
theorem Atz {md : MD} {b : Nat} (hb : md.base = some b) {B : Reg} : Cb B w (L ++ [md]) (.ptr L.length []) (.pointer (some ⟨b, 0, none⟩)) := ⟨md, b, by simp, hb, rfl⟩
theorem Akv {z : Nat} {E : TypeId} {v : Value} {c : List Value} {B : Reg} : Cb B w (L ++ [.own z E v c]) (.own L.length) v := ⟨z, E, v, c, by simp, rfl⟩
theorem Rel.len (hr : Rel Z s σs A L σ w) : s.it.length = L.length := hr.mem.it.1
theorem Rel.lt (hr : Rel Z s σs A L σ w) : ∀ b, A b → b < w.heap.size := St.lt hr
def Avy (A0 : Reg) (w0 : World) : Fact where
 holds A w := (∀ b, A0 b → A b) ∧ Same A0 w0 w
 step h ha hs _ := ⟨fun b hb => ha b (h.1 b hb), fun b hb => (hs b (h.1 b hb)).trans (h.2 b hb)⟩
theorem Rel.same (hr : Rel Z s σs A L σ w) : St A w [Avy A w, Aki Z.R L s σs σ, .old Z.M Z.w0] (L.map MD.Dn) := St.Age (f := Avy A w) hr ⟨fun _ h => h, fun _ _ => rfl⟩
theorem Acq {w' : World} {A' : Reg} {a : Item} {md : MD} {p : PV} {v : Value} {dn : Nat} {G : Prop} (hr : Rel Z s σs A L σ w) (hs : St A' w' [Avy A w, Aki Z.R L s σs σ, .old Z.M Z.w0] (md.Dn :: L.map MD.Dn))
  (ha : ItemR (fun b => A' b ∧ Z.R b) w' (L ++ [md]) a md) (hv : p.isV = true) (hp : ∀ B, Cb B w' (L ++ [md]) p v) (hk : k ((s.add a).Cq (some dn) p) = some r) :
  Anv Z σs k r G A L s.it w (Jl σ dn v) w' := by
 obtain ⟨h1, h2⟩ : (∀ b, A b → A' b) ∧ Same A w w' := hs.fact 0 rfl
 have hr' := Rel.push hs.Aka ha
 exact ⟨_, A', L ++ [md], hk, hr'.Cq (d := some dn) hv (hp _), fun _ => ⟨h1, h2, ⟨[md], rfl⟩, ⟨[a], rfl⟩⟩⟩
theorem Xh {o : Op} {dn : Nat} (h : Dx n ⟨some dn, o, ty, pos, after, none⟩ = true) : Nat.blt dn n = true := h
theorem Avp {t : TypeId} {v : PV} {dn : Nat} {G : Prop} (hr : Rel Z s σs A L σ w) (hd : Dx n ⟨some dn, .alloc t, ty, pos, after, none⟩ = true) (hz : zeroOf P t = some v)
  (hk : k ((s.add (.box t v)).Cq (some dn) (.ptr s.new [])) = some r) : Kh P n ops ⟨some dn, .alloc t, ty, pos, after, none⟩ Z s σs k r G A L σ w := by
 obtain ⟨z, h1, h2⟩ := Qd hz
 refine WL.alloc (cells := z.cells.toList) hr.same (Xh hd) h1 (by simp) (fun b w' hs' => WL.nil ?_)
 refine Acq (a := .box t v) (md := .box b z.cells.toList t) hr hs' ⟨rfl, h2 _ _ _⟩ rfl (fun B => ?_) hk
 rw [S.new, hr.len]; exact Atz rfl
theorem Ays {t : TypeId} {x : Operand} {dn : Nat} {G : Prop} (hr : Rel Z s σs A L σ w) (hd : Dx n ⟨some dn, .box t x, ty, pos, after, none⟩ = true) (hx : Akz (Cd s.sl x) = true)
  (hk : k ((s.add (.box t (Cd s.sl x))).Cq (some dn) (.ptr s.new [])) = some r) : Kh P n ops ⟨some dn, .box t x, ty, pos, after, none⟩ Z s σs k r G A L σ w := by
 obtain ⟨cs, h1, h2⟩ := Qo hr (We hr.mem.sl (Aog hx))
 have hF := St.Age (f := Alg Z.R L (.box t (Cd s.sl x)) cs) hr.same h2
 refine WL.box hF (Xh hd) rfl h1 (fun b w' hs' => WL.nil ?_)
 have h3 : Aeo (fun b => A b ∧ Z.R b) w' L (.box t (Cd s.sl x)) cs := hs'.fact 0 rfl
 refine Acq (a := .box t (Cd s.sl x)) (md := .box b cs t) hr hs'.Aka ⟨rfl, EncC.step (fun _ h => h) (fun _ _ => rfl) (LeL.append _ _) h3⟩ rfl (fun B => ?_) hk
 rw [S.new, hr.len]; exact Atz rfl
theorem Asl {a t e : TypeId} {x : Operand} {l : List UInt8} {dn : Nat} {G : Prop} (hr : Rel Z s σs A L σ w) (hd : Dx n ⟨some dn, .convert a t x, ty, pos, after, none⟩ = true) (ha : P.underlying a = some .string) (ht : P.underlying t = some (.slice e))
  (he : P.underlying e = some (.int .u8)) (hx : Cd s.sl x = .val .str l) (hk : k ((s.add (.arr e (.int .u8) l)).Cq (some dn) (.own s.new)) = some r) : Kh P n ops ⟨some dn, .convert a t x, ty, pos, after, none⟩ Z s σs k r G A L σ w := by
 refine WL.s2b ha ht he hr.same (Xh hd) (Hh hr.mem.sl hx) (fun p m c w' hs' => WL.nil ?_)
 refine Acq (a := .arr e (.int .u8) l) (md := .own 1 e (.slice p m c) (Oo l)) hr hs' ⟨rfl, rfl, Wu⟩ rfl (fun B => ?_) hk
 rw [S.new, hr.len]; exact Akv
where Wu : ∀ {B : Reg} {w : World} {l : List UInt8}, Az (Aj B w (.int .u8)) l (Oo l)
 | _, _, [] => rfl
 | _, _, x :: l => ⟨[iv x], Oo l, rfl, rfl, Wu⟩
theorem Awz {t e E : TypeId} {x : Operand} {i : Nat} {y : UInt8} {ys : List UInt8} {dn : Nat} {G : Prop} (hr : Rel Z s σs A L σ w) (hd : Dx n ⟨some dn, .convert t t x, ty, pos, after, none⟩ = true) (ht : P.underlying t = some (.slice e))
  (he : P.underlying e = some (.int .u8)) (hx : Cd s.sl x = .own i) (hi : Bb s.it i = .arr E (.int .u8) (y :: ys)) (hk : k (s.Cq (some dn) (.own i)) = some r) : Kh P n ops ⟨some dn, .convert t t x, ty, pos, after, none⟩ Z s σs k r G A L σ w := by
 obtain ⟨v, cs, h1, h2⟩ := hr.mem.arr hi
 have hne : 0 < cs.length := by
  obtain ⟨c, c', e1, e2, _⟩ := h2
  rw [e1, List.length_append]
  have : c.length = (ET.int .u8).size := Aj.len e2
  rw [this]
  have : (ET.int Kd.u8).size = 1 := rfl
  omega
 have hvr : Cb (fun b => A b ∧ Z.R b) w L (.own i) (ev σ x) := by
  have := Bl hr.mem.sl hx rfl
  exact this
 have hev : ev σ x = v := by
  obtain ⟨z, E', v', c, g1, g2⟩ := hvr
  rw [h1] at g1
  cases g1
  simpa using g2
 have hL : (L.map MD.Dn)[i]? = some (.own 1 E v cs) := by rw [List.getElem?_map, h1]; rfl
 refine WL.Azp ht he hr.same hL hne (Xh hd) hev (fun w' hs' => WL.nil ?_)
 obtain ⟨g1, g2⟩ : (∀ b, A b → A b) ∧ Same A w w' := hs'.fact 0 rfl
 have hr' : Rel Z s σs A L σ w' := hs'.Aka
 exact ⟨_, A, L, hk, hr'.Cq (d := some dn) (p := .own i) rfl ⟨_, _, _, _, h1, rfl⟩, fun _ => ⟨g1, g2, ⟨[], by simp⟩, ⟨[], by simp [S.Cq, S.set]⟩⟩⟩
theorem Ai3 {t : TypeId} {e : ET} (h : Al9 P t e = true) : ElemOk P t e.size := by
 unfold Al9 at h
 split at h
 ·rename_i i hi
  simp only [Bool.and_eq_true] at h
  obtain ⟨⟨⟨h1, h2⟩, h3⟩, h4⟩ := h
  split at h3
  ·rename_i z hz
   exact ⟨⟨i, z, hi, Be h1, hz, Be h3, Nat.le_of_ble_eq_true h2⟩, by have := Nat.le_of_ble_eq_true h4; omega⟩
  ·cases h3
 ·cases h
theorem Ac3 {t E : TypeId} (h : Ah8 P t = some E) : P.underlying t = some (.slice E) := by
 unfold Ah8 at h
 split at h
 ·rename_i e he; cases h; exact he
 ·cases h
theorem Ap2 {e : ET} {x : e.T} {c : List Value} (h : Aj B w e x c) : ∀ m, Az (Aj B w e) (List.replicate m x) (List.replicate m c).flatten
 | 0 => rfl
 | m + 1 => ⟨c, (List.replicate m c).flatten, rfl, h, Ap2 h m⟩
theorem Awo {t : TypeId} {a b : Operand} {dn : Nat} {G : Prop} (hr : Rel Z s σs A L σ w) (hd : Dx n ⟨some dn, .makeSlice t a b, ty, pos, after, none⟩ = true) (h : Asu P s (some dn) t a b k = some r) :
  Kh P n ops ⟨some dn, .makeSlice t a b, ty, pos, after, none⟩ Z s σs k r G A L σ w := by
 unfold Asu at h
 split at h
 ·cases h
 ·rename_i E hE
  split at h
  ·cases h
  ·rename_i e he
   obtain ⟨hb, h⟩ := Ak h
   split at h
   ·rename_i m m' z hm hm' hz
    split at h
    ·rename_i x hx
     obtain ⟨l, hl, h⟩ := bind_some h
     obtain ⟨_, hq, h⟩ := bind_some h
     obtain ⟨h1, h2, rfl⟩ := Aql hl
     have h3 : m' = m := by have := Ir hq; simpa [geq, GI.toZ] using this
     subst h3
     obtain ⟨zv, hz1, hz2⟩ := Qd hz
     have ea := Amp hm (Gv hr.mem.sl a (Ape hm))
     have eb := Amp hm' (Gv hr.mem.sl b (Ape hm'))
     refine WL.makeSlice (Ac3 hE) (Ai3 hb) hz1 (zs := zv.cells.toList) (by simp) hr.same (Xh hd) (m := m'.toNat) (by rw [← h1]; exact ea) (by rw [← h1]; exact eb) h2 (fun p q c w' hs' => WL.nil ?_)
     refine Acq (a := .arr E e (List.replicate m'.toNat x)) (md := .own e.size E (.slice p q c) (List.replicate m'.toNat zv.cells.toList).flatten) hr hs' ⟨rfl, rfl, Ap2 (Qn hx (hz2 _ _ (L ++ []))) _⟩ rfl (fun B => ?_) h
     rw [S.new, hr.len]; exact Akv
    ·cases h
   ·cases h
end Go.Rx
set_option linter.unusedVariables false
set_option linter.unusedSimpArgs false
namespace Go.Rx
open Go Go.Lv
variable {P : Program} {B : Reg} {w w' : World} {L L' : List MD} {s : S} {σs : List Env} {σ : Env} {Z : Fix} {A A' : Reg} {n : Nat} {ops : Array Oper} {rest : List Oper} {K : Env → World → Prop}
variable {R : Type} {k : S → Option R} {r : R} {d : Option Nat} {ty : TypeId} {pos : String} {after : Array Edge}
theorem Anv.of {G : Prop} {s1 : S} {A1 : Reg} {L1 : List MD} {σ' : Env} (h : G → s1 = s ∧ A1 = A ∧ L1 = L) (hp : Anv Z σs k r G A1 L1 s1.it w σ' w') : Anv Z σs k r G A L s.it w σ' w' := by
 obtain ⟨s', A', L', h1, h2, h3⟩ := hp
 refine ⟨s', A', L', h1, h2, fun g => ?_⟩
 obtain ⟨e1, e2, e3⟩ := h g
 subst e1 e2 e3
 exact h3 g
theorem isEmpty_nil {α : Type} {l : List α} (h : l.isEmpty = true) : l = [] := by cases l <;> simp_all
theorem Ao3 {z : Nat} (h : Nat.ble 1 z = true) : 0 < z := by have := Nat.le_of_ble_eq_true h; omega
theorem Rel.Ayw (hr : Rel Z s σs A L σ w) {i z : Nat} {E : TypeId} {v : Value} {cs : List Value} (h : L[i]? = some (.own z E v cs)) :
  ∃ q len cap, v = .slice q len cap ∧ cs.length = len * z ∧ len ≤ cap ∧ (q = none → cap = 0) ∧ (0 < cap → ∃ b, q = some ⟨b, 0, none⟩ ∧ (MD.own z E v cs).base = some b) := by
 obtain ⟨o, q, len, cap, h1, h2, h3, h4, h5, h6⟩ := Mobs.mem (A := A) (St.mobs hr) (hr.Dn h)
 refine ⟨q, len, cap, h1, h2, h3, h4, fun hc => ?_⟩
 cases o with
 | none => have := h5 rfl; omega
 | some b =>
  obtain ⟨arr, fr, e1, _⟩ := h6 b rfl
  subst h1 e1
  exact ⟨b, rfl, rfl⟩
theorem X.Aiv {t e : TypeId} {z len cap a b : Nat} {p : Option Addr} {x : Operand} {lo hi : Option Operand} (ht : P.underlying t = some (.slice e)) (hsz : SizeIs P e z) (h1 : a ≤ b) (h2 : b ≤ len) (h3 : len ≤ cap) (hx : ev σ x = .slice p len cap)
  (hlo : (∃ q, lo.map (ev σ) = some (.int q (a : Int))) ∨ (lo = none ∧ a = 0)) (hhi : (∃ q, hi.map (ev σ) = some (.int q (b : Int))) ∨ (hi = none ∧ b = len)) :
  XO P σ w (.slice t x lo hi none) (.slice (if cap = a then p else p.map (·.add (a * z))) (b - a) (cap - a)) := fun _ _ _ _ _ => by
 have hr := An4 (P := P) (w := w) (p := p) (vlo := lo.map (ev σ)) (vhi := hi.map (ev σ)) ht hsz h1 h2 h3 (by rcases hlo with h | ⟨h, h'⟩; exact .inl h; exact .inr ⟨by rw [h]; rfl, h'⟩)
   (by rcases hhi with h | ⟨h, h'⟩; exact .inl h; exact .inr ⟨by rw [h]; rfl, h'⟩)
 simp only [execOp, hx, Instr.sliceAt, Sem.run_bind, run_underlying ht, Result.andThen_ok, Option.map_none, hr, Sem.run_pure]
theorem X.Aol {t u e : TypeId} {z m a b : Nat} {ad : Addr} {x : Operand} {lo hi : Option Operand} (ht : Atj P t = some (u, m, e)) (hsz : SizeIs P e z) (h1 : a ≤ b) (h2 : b ≤ m) (hx : ev σ x = .pointer (some ad))
  (hlo : (∃ q, lo.map (ev σ) = some (.int q (a : Int))) ∨ (lo = none ∧ a = 0)) (hhi : (∃ q, hi.map (ev σ) = some (.int q (b : Int))) ∨ (hi = none ∧ b = m)) :
  XO P σ w (.slice t x lo hi none) (.slice (some (if m = a then ad else ad.add (a * z))) (b - a) (m - a)) := fun _ _ _ _ _ => by
 have hlo' : (∃ q, lo.map (ev σ) = some (.int q (a : Int))) ∨ (lo.map (ev σ) = none ∧ a = 0) := hlo.imp id fun h => ⟨by rw [h.1]; rfl, h.2⟩
 have hhi' : (∃ q, hi.map (ev σ) = some (.int q (b : Int))) ∨ (hi.map (ev σ) = none ∧ b = m) := hhi.imp id fun h => ⟨by rw [h.1]; rfl, h.2⟩
 unfold Atj at ht
 split at ht
 ·rename_i m' et hu
  cases ht
  simp only [execOp, hx, Instr.sliceAt, Sem.run_bind, run_underlying hu, Result.andThen_ok, Option.map_none]
  generalize lo.map (ev σ) = vlo at hlo' ⊢
  generalize hi.map (ev σ) = vhi at hhi' ⊢
  clear hlo hhi
  rcases hlo' with ⟨q, rfl⟩ | ⟨rfl, rfl⟩ <;> rcases hhi' with ⟨q', rfl⟩ | ⟨rfl, rfl⟩ <;>
   simp [Instr.sureAddr, Instr.sliceBounds, Instr.sliceBound, asIntOf, Aq hsz, h1, h2]
 ·rename_i u' hp
  split at ht
  ·rename_i m' et hu
   cases ht
   simp only [execOp, hx, Instr.sliceAt, Sem.run_bind, run_underlying hp, Result.andThen_ok, Option.map_none]
   generalize lo.map (ev σ) = vlo at hlo' ⊢
   generalize hi.map (ev σ) = vhi at hhi' ⊢
   clear hlo hhi
   rcases hlo' with ⟨q, rfl⟩ | ⟨rfl, rfl⟩ <;> rcases hhi' with ⟨q', rfl⟩ | ⟨rfl, rfl⟩ <;>
    simp [Instr.slice, run_underlying hp, run_underlying hu, Instr.sliceBounds, Instr.sliceBound, asIntOf, Aq hsz, h1, h2, asAddr]
  ·cases ht
 ·cases ht
theorem Axw {t et : TypeId} {x : Operand} {lo hi : Option Operand} {G : Prop} (hr : Rel Z s σs A L σ w) (hd : Dx n ⟨d, .slice t x lo hi none, ty, pos, after, none⟩ = true) (ht : P.underlying t = some (.slice et)) (h : Asc P s d et (Cd s.sl x) lo hi k = some r) :
  Kh P n ops ⟨d, .slice t x lo hi none, ty, pos, after, none⟩ Z s σs k r G A L σ w := by
 have hm := hr.mem
 unfold Asc at h
 split at h
 ·cases h
 ·rename_i inf hinf
  split at h
  ·rename_i i hx
   split at h
   ·rename_i E e l hi'
    obtain ⟨hb, h⟩ := Ak h
    simp only [Bool.and_eq_true] at hb
    split at h
    ·rename_i a b ha hb'
     obtain ⟨_, hok, h⟩ := bind_some h
     have hab : 0 ≤ a ∧ a ≤ b ∧ b ≤ Aa l := of_decide_eq_true (Ir hok)
     obtain ⟨u, cs, h1, h2⟩ := hm.arr hi'
     obtain ⟨z', E', c', h3⟩ := Ms (Bl hm.sl hx rfl)
     rw [h1] at h3
     have h3' := h3
     cases h3
     obtain ⟨q, len, cap, g1, g2, g3, g4, g5⟩ := hr.Ayw h1
     have hz : 0 < e.size := by have := Nat.le_of_ble_eq_true hb.2; omega
     have hl : len = l.length := Nat.eq_of_mul_eq_mul_right hz (g2.symm.trans (h2.len fun x c h => Aj.len h))
     obtain ⟨a1, ha1⟩ := Int.eq_ofNat_of_zero_le hab.1
     obtain ⟨b1, hb1⟩ := Int.eq_ofNat_of_zero_le (show 0 ≤ b by omega)
     subst ha1 hb1
     have hbl : b1 ≤ len := by rw [hl]; have := hab.2.2; unfold Aa at this; omega
     have hxo := X.Aiv (P := P) (σ := σ) (w := w) (x := x) (lo := lo) (hi := hi) (a := a1) (b := b1) ht (Cc hinf hb.1) (by omega) hbl g3 g1
      (by rcases Ei hm.sl ha with h | ⟨h, h'⟩; exact .inl h; exact .inr ⟨h, by omega⟩) (by rcases Ei hm.sl hb' with h | ⟨h, h'⟩; exact .inl h; exact .inr ⟨h, by unfold Aa at h'; omega⟩)
     rw [g1] at h1
     refine Br (p := .view true i [] e a1 (b1 - a1)) hr hd hxo rfl ⟨_, _, h1, rfl, by omega, by omega, ⟨_, _, by rw [show ((b1 : Int) - a1).toNat = b1 - a1 by omega], by omega, fun hn => ?_, fun hc => ?_⟩,
      (fun _ => ⟨_, _, q, len, cap, cs, rfl, rfl, by omega, fun pt m c' hv => ?_, fun h0 => ?_⟩), (fun h => by cases h)⟩ h
     ·split at hn
      ·omega
      ·have : q = none := by simpa using hn
       have := g4 this; omega
     ·obtain ⟨bb, e1, e2⟩ := g5 (by omega)
      rw [g1] at e2
      refine ⟨bb, e2, ?_⟩
      rw [if_neg (by omega), e1]
      simp [Fh, Ag]
     ·cases hv
      simp only [Int.toNat_natCast]; omega
     ·have ha0 : a1 = 0 := by omega
      subst ha0
      rw [show ((b1 : Int) - (0 : Nat)).toNat = b1 by omega]
      simp only [Nat.sub_zero]
      congr 1
      split
      ·rfl
      ·by_cases hc : 0 < cap
       ·obtain ⟨bb, e1, _⟩ := g5 hc
        rw [e1]; simp [Fh]
       ·omega
    ·cases h
   ·cases h
  ·rename_i o i p e l0 n' hx
   obtain ⟨hb, h⟩ := Ak h
   simp only [Bool.and_eq_true] at hb
   split at h
   ·rename_i a b ha hb'
    obtain ⟨_, hok, hk⟩ := bind_some h
    have hab : 0 ≤ a ∧ a ≤ b ∧ b ≤ n' := of_decide_eq_true (Ir hok)
    obtain ⟨md, v1, h3, h4, k1, k2, ⟨pt, cap, k3, k4, k5, k6⟩, k7, k8⟩ := Bl hm.sl hx rfl
    have h6 : ev σ x = v1 := by simpa using h4
    obtain ⟨a1, ha1⟩ := Int.eq_ofNat_of_zero_le hab.1
    obtain ⟨b1, hb1⟩ := Int.eq_ofNat_of_zero_le (show 0 ≤ b by omega)
    obtain ⟨l1, hl1⟩ := Int.eq_ofNat_of_zero_le k1
    obtain ⟨n1, hn1⟩ := Int.eq_ofNat_of_zero_le k2
    subst ha1 hb1 hl1 hn1
    simp only [Int.toNat_natCast] at k3 k4 k6 k7
    have hxo := X.Aiv (P := P) (σ := σ) (w := w) (x := x) (lo := lo) (hi := hi) (a := a1) (b := b1) ht (Cc hinf hb.1) (by omega) (by omega) k4 (h6.trans k3)
     (by rcases Ei hm.sl ha with h | ⟨h, h'⟩; exact .inl h; exact .inr ⟨h, by omega⟩) (by rcases Ei hm.sl hb' with h | ⟨h, h'⟩; exact .inl h; exact .inr ⟨h, by omega⟩)
    have e0 : ((l1 : Int) + a1).toNat = l1 + a1 := by omega
    refine Br (p := .view o i p e (l1 + a1) (b1 - a1)) hr hd hxo rfl ⟨md, _, h3, rfl, by omega, by omega, ⟨_, _, by rw [show ((b1 : Int) - a1).toNat = b1 - a1 by omega], by omega, fun hn => ?_, fun hc => ?_⟩, (fun ho => ?_), k8⟩ hk
    ·split at hn
     ·omega
     ·have : pt = none := by simpa using hn
      have := k5 this; omega
    ·obtain ⟨bb, e1, e2⟩ := k6 (by omega)
     refine ⟨bb, e1, ?_⟩
     rw [if_neg (by omega), e2, e0]
     simp [Fh, Nat.add_mul, Nat.add_assoc]
    ·obtain ⟨s', E', q, len, cap0, c0, e1, e2, e3, e4, e5⟩ := k7 ho
     have e6 := e4 _ _ _ k3
     refine ⟨s', E', q, len, cap0, c0, e1, e2, by omega, fun pt' m c' hv => ?_, fun h0 => ?_⟩
     ·cases hv; omega
     ·have h00 : l1 = 0 ∧ a1 = 0 := by omega
      obtain ⟨rfl, rfl⟩ := h00
      have e7 := e5 rfl
      rw [k3] at e7
      cases e7
      rw [show ((b1 : Int) - (0 : Nat)).toNat = b1 by omega]
      simp only [Nat.sub_zero]
      congr 1
      split
      ·rfl
      ·by_cases hc : 0 < cap
       ·obtain ⟨bb, _, e8⟩ := k6 hc
        rw [e8]; simp [Fh]
       ·omega
   ·cases h
  ·cases h
theorem Avm {t : TypeId} {x : Operand} {lo hi : Option Operand} {G : Prop} (hr0 : Rel Z s σs A L σ w) (hd : Dx n ⟨d, .slice t x lo hi none, ty, pos, after, none⟩ = true) {vw : Bool} (h : Apy vw s d t x lo hi k P = some r) (hG : G → (owns (Cd s.sl x)).isEmpty = true) :
  Kh P n ops ⟨d, .slice t x lo hi none, ty, pos, after, none⟩ Z s σs k r G A L σ w := by
 unfold Apy at h
 split at h
 ·rename_i ht
  split at h
  ·rename_i l hx
   split at h
   ·rename_i a b ha hb
    obtain ⟨y, hy, h⟩ := bind_some h
    exact Br (p := .val .str y) hr0 hd (X.Azh ht (Hh hr0.mem.sl hx) hy (Ei hr0.mem.sl ha) (Ei hr0.mem.sl hb)) rfl rfl h
   ·cases h
  ·cases h
 ·rename_i et ht
  cases hvw : (vw && Aqy (Cd s.sl x)) with
  | true =>
   rw [hvw] at h
   exact Axw hr0 hd ht h
  | false =>
  rw [hvw] at h
  dsimp only [Bj, cond] at h
  split at h
  ·cases h
  ·rename_i s1 hs1
   obtain ⟨A1, L1, hr, hsame⟩ := Gh hr0 hs1
   have hm := hr.mem
   split at h
   ·rename_i e0 l0 hx
    split at h
    ·rename_i e l
     split at h
     ·rename_i inf hinf
      obtain ⟨hb, h⟩ := Ak h
      simp only [Bool.and_eq_true] at hb
      split at h
      ·rename_i a b ha hb'
       obtain ⟨y, hy, h⟩ := bind_some h
       obtain ⟨h1, h2, h3, h4, rfl⟩ := Ot hy
       obtain ⟨c0, h5, h6⟩ := Kb (Bl hm.sl hx rfl)
       have hlen := h6.len fun x c h => Aj.len h
       obtain ⟨p', l', c', h7, h8⟩ := X.Ari (P := P) (l := a.toNat) (k := b.toNat) (m := l.length) ht (Cc hinf hb.1) (St.Avb hr h5) (j := 0) rfl hlen (Ao3 hb.2) h3 h4
       have hxo := h7 σ w x lo hi rfl (by rcases Ei hm.sl ha with h | ⟨h, h'⟩; exact .inl (by rw [← h1]; exact h); exact .inr ⟨h, by omega⟩)
        (by rcases Ei hm.sl hb' with h | ⟨h, h'⟩; exact .inl (by rw [← h2]; exact h); exact .inr ⟨h, by rw [h']; simp [Aa]⟩)
       have hv : Cb (fun b => A1 b ∧ Z.R b) w L1 (.val (.list e) ((l.take b.toNat).drop a.toNat)) (.slice p' l' c') :=
        Ac6 (h8.fact 0 rfl) (Az.drop (fun x c h => Aj.len h) _ (Az.take (fun x c h => Aj.len h) _ h6))
       refine WL.Asd rfl hd (hxo _ _ _ _ _) (WL.nil ⟨_, A1, L1, h, hr.Cq rfl hv, fun g => ?_⟩)
       obtain ⟨e1, e2, e3⟩ := hsame (isEmpty_nil (hG g))
       subst e1 e2 e3
       have : (s1.Cq d (.val (.list e) ((l.take b.toNat).drop a.toNat))).it = s1.it := by cases d <;> rfl
       rw [this]; exact .refl
      ·cases h
     ·cases h
    ·cases h
   ·rename_i hx
    split at h
    ·rename_i inf a b hinf ha hb'
     obtain ⟨_, hok, hk⟩ := bind_some h
     have hab : 0 ≤ a ∧ a ≤ b ∧ b ≤ 0 := of_decide_eq_true (Ir hok)
     have ha0 : a = 0 := by omega
     have hb0 : b = 0 := by omega
     subst ha0 hb0
     have hv := Ln (Bl hm.sl hx rfl)
     have hxo := X.Aiv (P := P) (σ := σ) (w := w) (x := x) (lo := lo) (hi := hi) (a := 0) (b := 0) (z := inf.size) ht ⟨inf, hinf, rfl⟩ (Nat.le_refl _) (Nat.le_refl _) (Nat.le_refl _) hv
      (by rcases Ei hm.sl ha with h | ⟨h, h'⟩; exact .inl h; exact .inr ⟨h, rfl⟩) (by rcases Ei hm.sl hb' with h | ⟨h, h'⟩; exact .inl h; exact .inr ⟨h, rfl⟩)
     refine WL.Asd rfl hd (hxo _ _ _ _ _) (WL.nil ⟨_, A1, L1, hk, hr.Cq rfl rfl, fun g => ?_⟩)
     obtain ⟨e1, e2, e3⟩ := hsame (isEmpty_nil (hG g))
     subst e1 e2 e3
     have : (s1.Cq d .nils).it = s1.it := by cases d <;> rfl
     rw [this]; exact .refl
    ·cases h
   ·cases h
 ·split at h
  ·rename_i u m et hat
   split at h
   ·cases h
   ·rename_i inf hinf
    split at h
    ·rename_i i p hx
     split at h
     ·rename_i T v hit
      split at h
      ·rename_i e0 l0 hg
       split at h
       ·rename_i m' e l
        obtain ⟨hb, h⟩ := Ak h
        simp only [Bool.and_eq_true] at hb
        split at h
        ·rename_i a b ha hb'
         obtain ⟨_, hok, hk⟩ := bind_some h
         have hab : 0 ≤ a ∧ a ≤ b ∧ b ≤ m := of_decide_eq_true (Ir hok)
         have hm := hr0.mem
         obtain ⟨md, bb, h1, h2, h3⟩ := Jb (Bl hm.sl hx rfl)
         obtain ⟨a1, ha1⟩ := Int.eq_ofNat_of_zero_le hab.1
         obtain ⟨b1, hb1⟩ := Int.eq_ofNat_of_zero_le (show 0 ≤ b by omega)
         subst ha1 hb1
         have hxo := X.Aol (P := P) (σ := σ) (w := w) (x := x) (lo := lo) (hi := hi) (a := a1) (b := b1) hat (Cc hinf hb.1.2) (by omega) (by omega) h3
          (by rcases Ei hm.sl ha with h | ⟨h, h'⟩; exact .inl h; exact .inr ⟨h, by omega⟩) (by rcases Ei hm.sl hb' with h | ⟨h, h'⟩; exact .inl h; exact .inr ⟨h, by omega⟩)
         refine Br (p := .view false i p e a1 (b1 - a1)) hr0 hd hxo rfl ⟨md, _, h1, rfl, by omega, by omega, ⟨_, _, (by rw [show ((b1 : Int) - a1).toNat = b1 - a1 by omega]), (by omega), (fun h => by cases h), fun hc => ⟨bb, h2, ?_⟩⟩, (fun h => by cases h), fun _ => ⟨bb, h2⟩⟩ hk
         rw [if_neg (by omega), Fh]; rfl
        ·cases h
       ·cases h
      ·cases h
     ·cases h
    ·cases h
  ·cases h
theorem At1 {t : TypeId} {x hi mx : Operand} {lo : Option Operand} {G : Prop} (hr0 : Rel Z s σs A L σ w) (hd : Dx n ⟨d, .slice t x lo (some hi) (some mx), ty, pos, after, none⟩ = true) (h : Am2 s d t x lo hi mx k P = some r) (hG : G → (owns (Cd s.sl x)).isEmpty = true) :
  Kh P n ops ⟨d, .slice t x lo (some hi) (some mx), ty, pos, after, none⟩ Z s σs k r G A L σ w := by
 unfold Am2 at h
 split at h
 ·rename_i et ht
  split at h
  ·cases h
  ·rename_i s1 hs1
   obtain ⟨A1, L1, hr, hsame⟩ := Gh hr0 hs1
   have hm := hr.mem
   split at h
   ·rename_i e0 l0 hx
    split at h
    ·rename_i e l
     split at h
     ·rename_i inf hinf
      obtain ⟨hb, h⟩ := Ak h
      simp only [Bool.and_eq_true] at hb
      split at h
      ·rename_i a b c ha hb' hc'
       obtain ⟨_, hok, h⟩ := bind_some h
       have hbc : b ≤ c ∧ c ≤ Aa l := of_decide_eq_true (Ir hok)
       obtain ⟨y, hy, h⟩ := bind_some h
       obtain ⟨h1, h2, h3, h4, rfl⟩ := Ot hy
       obtain ⟨c0, h5, h6⟩ := Kb (Bl hm.sl hx rfl)
       have hlen := h6.len fun x c h => Aj.len h
       obtain ⟨q1, hq1⟩ := Mq hb' (Gv hm.sl hi (Rt hb'))
       obtain ⟨q2, hq2⟩ := Mq hc' (Gv hm.sl mx (Rt hc'))
       unfold Aa at hbc
       obtain ⟨p', l', c', h7, h8⟩ := X.At4 (P := P) (l := a.toNat) (k := b.toNat) (c := c.toNat) (m := l.length) ht (Cc hinf hb.1) (St.Avb hr h5) (j := 0) rfl hlen (Ao3 hb.2) h3 (by omega) (by omega)
       have hxo := h7 σ w x lo hi mx rfl (by rcases Ei hm.sl ha with h | ⟨h, h'⟩; exact .inl (by rw [← h1]; exact h); exact .inr ⟨h, by omega⟩)
        ⟨q1, by rw [hq1, ← h2]⟩ ⟨q2, by rw [hq2, show ((c.toNat : Nat) : Int) = c by omega]⟩
       have hv : Cb (fun b => A1 b ∧ Z.R b) w L1 (.val (.list e) ((l.take b.toNat).drop a.toNat)) (.slice p' l' c') :=
        Ac6 (h8.fact 0 rfl) (Az.drop (fun x c h => Aj.len h) _ (Az.take (fun x c h => Aj.len h) _ h6))
       refine WL.Asd rfl hd (hxo _ _ _ _ _) (WL.nil ⟨_, A1, L1, h, hr.Cq rfl hv, fun g => ?_⟩)
       obtain ⟨e1, e2, e3⟩ := hsame (isEmpty_nil (hG g))
       subst e1 e2 e3
       have : (s1.Cq d (.val (.list e) ((l.take b.toNat).drop a.toNat))).it = s1.it := by cases d <;> rfl
       rw [this]; exact .refl
      ·cases h
     ·cases h
    ·cases h
   ·cases h
 ·cases h
theorem Az2 {e : ET} {p : PV} {x : e.T} (h : e.of p = some x) : p.isP = true := by
 unfold ET.of Aqm at h
 split at h
 ·rfl
 ·rfl
 ·rfl
 ·cases h
theorem Aos {e : ET} (hr : Rel Z s σs A L σ w) : ∀ {xs : List Operand} {l : List e.T}, An9 e (xs.map (Cd s.sl)) = some l →
  Az (Aj (fun b => A b ∧ Z.R b) w e) l ((xs.map (ev σ)).map fun v : Value => v.cells.toList).flatten ∧ l.length = xs.length ∧ ∀ v ∈ xs.map (ev σ), v.cells.size = e.size
 | [], l, h => by simp only [List.map_nil, An9, Option.some.injEq] at h; subst h; exact ⟨rfl, rfl, by simp⟩
 | x :: xs, l, h => by
  simp only [List.map_cons, An9] at h
  split at h
  ·rename_i y ys hy hys
   cases h
   obtain ⟨h1, h2, h3⟩ := Aos hr hys
   obtain ⟨cs, h4, h5⟩ := Qo hr (We hr.mem.sl (x := x) (Az2 hy))
   have h6 := Qn hy h5
   refine ⟨⟨cs, _, by simp [h4], h6, h1⟩, by simp [h2], fun v hv => ?_⟩
   simp only [List.map_cons, List.mem_cons] at hv
   rcases hv with rfl | hv
   ·rw [h4]; simpa using h6.len
   ·exact h3 v hv
  ·cases h
theorem Arq : ∀ {ps : List (Nat × Operand)} {m : Nat}, As7 m ps = true → (ps.map fun p => (p.1, ev σ p.2)) = (((ps.map Prod.snd).map (ev σ)).zipIdx m).map fun p => (p.2, p.1)
 | [], _, _ => rfl
 | (i, x) :: ps, m, h => by
  simp only [As7, Bool.and_eq_true] at h
  simp only [List.map_cons, List.zipIdx_cons, Arq h.2, Be h.1]
theorem Anw {t : TypeId} {len : Nat} {ps : Array (Nat × Operand)} {dn : Nat} {G : Prop} (hr0 : Rel Z s σs A L σ w) (hd : Dx n ⟨some dn, .buildSlice t len ps, ty, pos, after, none⟩ = true)
  (h : Xr P s (some dn) t len ps.toList k = some r) (hG : G → (owns.go (ps.toList.map fun p => Cd s.sl p.2)).isEmpty = true) : Kh P n ops ⟨some dn, .buildSlice t len ps, ty, pos, after, none⟩ Z s σs k r G A L σ w := by
 unfold Xr at h
 split at h
 ·cases h
 ·rename_i E hE
  split at h
  ·cases h
  ·rename_i e he
   obtain ⟨hb, h⟩ := Ak h
   simp only [Bool.and_eq_true] at hb
   obtain ⟨⟨⟨hb1, hb2⟩, hb3⟩, hb4⟩ := hb
   split at h
   ·cases h
   ·rename_i s1 hs1
    obtain ⟨A1, L1, hr, hsame⟩ := Gh hr0 hs1
    split at h
    ·rename_i l hl
     have hl' : An9 e ((ps.toList.map Prod.snd).map (Cd s1.sl)) = some l := by rw [List.map_map]; exact hl
     obtain ⟨h1, h2, h3⟩ := Aos hr hl'
     have hps : ps = ps.toList.toArray := by simp
     rw [show (⟨some dn, .buildSlice t len ps, ty, pos, after, none⟩ : Oper) = ⟨some dn, .buildSlice t len ps.toList.toArray, ty, pos, after, none⟩ by rw [← hps]]
     have hlen : ((ps.toList.map Prod.snd).map (ev σ)).length = len := by simpa using Be hb3
     have hF := St.Age (f := Alg Z.R L1 (.arr E e l) (((ps.toList.map Prod.snd).map (ev σ)).map fun v : Value => v.cells.toList).flatten) hr.same h1
     refine WL.buildSlice (vs := (ps.toList.map Prod.snd).map (ev σ)) (Ac3 hE) (Ai3 hb1) hF (Xh (o := .buildSlice t len ps) hd) (Arq hb2) hlen hb4 h3 rfl (fun p q c w' hs' => WL.nil ?_)
     have h4 : Az (Aj (fun b => A1 b ∧ Z.R b) w' e) l (((ps.toList.map Prod.snd).map (ev σ)).map fun v : Value => v.cells.toList).flatten := hs'.fact 0 rfl
     refine Anv.of (fun g => hsame (isEmpty_nil (hG g))) (Acq (a := .arr E e l) (md := .own e.size E (.slice p q c) _) hr hs'.Aka ⟨rfl, rfl, h4⟩ rfl (fun B => ?_) h)
     rw [S.new, hr.len]; exact Akv
    ·cases h
theorem At7 {E : TypeId} {e : ET} {i len cap m : Nat} {q : Option Addr} {cs : List Value} {l : List e.T} (hr : Rel Z s σs A L σ w) (hi : L[i]? = some (.own e.size E (.slice q len cap) cs)) (hm : m ≤ len) (hl : Az (Aj (fun b => A b ∧ Z.R b) w e) l (cs.take (m * e.size))) :
  Rel Z (((s.Jl i .dead).sub i .any).add (.arr E e l)) σs A (L.set i .dead ++ [.own e.size E (.slice q m cap) (cs.take (m * e.size))]) σ w := by
 have hf : Frz (fun b => A b ∧ Z.R b) w L i .any := ⟨fun z E' u c h => ⟨u, rfl, by rw [hi] at h; cases h; rfl⟩, rfl, rfl⟩
 have hm2 := hr.mem.subst hf
 have hmob : (L.map MD.Dn)[i]? = some (Mob.own e.size E (.slice q len cap) cs) := hr.Dn hi
 obtain ⟨o, h1, h2, h3⟩ := (St.mobs hr).perm (Afb hmob).symm
 have h4 : (Mob.own e.size E (.slice q m cap) (cs.take (m * e.size))).holds o w := by
  obtain ⟨q', len', cap', g1, g2, g3, g4, g5, g6⟩ := h1
  cases g1
  have e5 : m * e.size ≤ len * e.size := Nat.mul_le_mul_right _ hm
  refine ⟨q, m, cap, rfl, by rw [List.length_take]; omega, by omega, g4, g5, fun b hb => ?_⟩
  obtain ⟨arr, fr, k1, k2, k3, k4, k5⟩ := g6 b hb
  exact ⟨arr, fr, k1, k2, k3, k4, fun j hj => by rw [k5 j (by omega), List.getElem?_take, if_pos hj]⟩
 have h5 : Mobs w A (Mob.own e.size E (.slice q m cap) (cs.take (m * e.size)) :: (L.map MD.Dn).eraseIdx i) := ⟨o, h4, h2, h3⟩
 have h6 : Mobs w A (MD.dead.Dn :: Mob.own e.size E (.slice q m cap) (cs.take (m * e.size)) :: (L.map MD.Dn).eraseIdx i) := ⟨none, ⟨none, 0, 0, rfl, by simp, Nat.le_refl _, fun _ => rfl, fun _ => rfl, fun b h => by cases h⟩, fun b hb => (by cases hb), h5.Nl fun b hb => hb.elim id fun h => by cases h⟩
 have h7 : Mobs w A ((MD.own e.size E (.slice q m cap) (cs.take (m * e.size))).Dn :: (L.set i .dead).map MD.Dn) := by
  rw [List.map_set]
  exact h6.perm ((List.Perm.swap _ _ _).trans ((Vx (m' := MD.dead.Dn) hmob).cons _))
 have h8 : St A w [Aki Z.R (L.set i .dead) ((s.Jl i .dead).sub i .any) σs σ, .old Z.M Z.w0] ((MD.own e.size E (.slice q m cap) (cs.take (m * e.size))).Dn :: (L.set i .dead).map MD.Dn) := by
  refine ⟨St.lt hr, fun f hf => ?_, h7⟩
  cases hf with
  | head => exact hm2
  | tail _ hf => exact hr.facts f (.tail _ hf)
 exact Rel.push (a := .arr E e l) h8 ⟨rfl, rfl, hl⟩
theorem Aqf {E : TypeId} {e : ET} {x : Operand} {s1 : S} {i : Nat} (hr : Rel Z s σs A L σ w) (hz : 0 < e.size) (hx : (Cd s.sl x).isP = true) (h : Atc s E e (Cd s.sl x) = some (s1, i)) :
  ∃ L1, Rel Z s1 σs A L1 σ w ∧ ∃ c0, L1[i]? = some (.own e.size E (ev σ x) c0) := by
 have hv := Gv hr.mem.sl x (PV.Aoa hx)
 unfold Atc at h
 split at h
 ·rename_i hp
  cases h
  rw [hp] at hv
  have hev := Ln hv
  have hr' := Rel.push (a := .arr E e []) (md := .own e.size E (.slice none 0 0) []) (St.Apq hr e.size E) ⟨rfl, rfl, rfl⟩
  refine ⟨_, hr', [], ?_⟩
  rw [S.new, hr.len, hev]; simp
 ·rename_i j hp
  rw [hp] at hv
  split at h
  ·rename_i E' e' l hj
   obtain ⟨hb, h⟩ := Ak h
   split at h
   ·rename_i he
    cases h
    subst he
    have := Be hb
    subst this
    obtain ⟨v, cs, h1, h2⟩ := hr.mem.arr hj
    obtain ⟨z, E', c, h3⟩ := Ms hv
    rw [h1] at h3; cases h3
    exact ⟨L, hr, cs, h1⟩
   ·cases h
  ·cases h
 ·rename_i j p e1 lo n' hp
  rw [hp] at hv
  split at h
  ·rename_i E' e' l hj
   obtain ⟨hb, h⟩ := Ak h
   simp only [Bool.and_eq_true, decide_eq_true_eq] at hb
   obtain ⟨⟨hE, h0⟩, he1⟩ := hb
   split at h
   ·rename_i he
    cases h
    subst he he1
    have := Be hE
    subst this
    subst h0
    obtain ⟨u, cs, h1, h2⟩ := hr.mem.arr hj
    obtain ⟨md, v1, h3, h4, k1, k2, _, k7, _⟩ := hv
    rw [h1] at h3; cases h3
    have h6 : ev σ x = v1 := by simpa using h4
    obtain ⟨s', E2, q, len, cap, c0, e1, e2, e3, _, e5⟩ := k7 rfl
    cases e1
    have e7 := e5 rfl
    have hl : Az (Aj (fun b => A b ∧ Z.R b) w e1) (Aaf l 0 n') (cs.take (n'.toNat * e1.size)) := by
     have := Az.take (fun x c h => Aj.len h) n'.toNat h2
     simpa [Aaf] using this
    have hr' := At7 hr h1 (m := n'.toNat) (by simpa using e3) hl
    refine ⟨_, hr', cs.take (n'.toNat * e1.size), ?_⟩
    rw [h6, e7, S.new, hr.len]
    have : L.length = (L.set j .dead).length := by simp
    rw [this, List.getElem?_append_right (Nat.le_refl _)]
    simp
   ·cases h
  ·cases h
 ·cases h
theorem Aw1 {e : ET} {a : Item} {l : List e.T} (h : Aye e a = some l) : ∃ E, a = .arr E e l := by
 unfold Aye at h
 split at h
 ·rename_i E e' l'
  split at h
  ·rename_i he; subst he; cases h; exact ⟨E, rfl⟩
  ·cases h
 ·cases h
theorem Arr {E : TypeId} {e : ET} {i dn : Nat} {l m : List e.T} {cs ys : List Value} {v v' : Value} {w' : World} {s0 : S} {A0 : Reg} {L0 : List MD} {w0 : World} (hr : Rel Z s σs A L σ w) (hi : L[i]? = some (.own e.size E v cs)) (hl : Az (Aj (fun b => A b ∧ Z.R b) w e) (l ++ m) (cs ++ ys))
  (hs : St A w' [Alg Z.R L (.arr E e (l ++ m)) (cs ++ ys), Aki Z.R L s σs σ, .old Z.M Z.w0] ((L.map MD.Dn).set i (.own e.size E v' (cs ++ ys))))
  (hk : k ((((s.Jl i .dead).sub i .any).add (.arr E e (l ++ m))).Cq (some dn) (.own s.new)) = some r) : Anv Z σs k r False A0 L0 s0.it w0 (Jl σ dn v') w' := by
 have h1 : Az (Aj (fun b => A b ∧ Z.R b) w' e) (l ++ m) (cs ++ ys) := hs.fact 0 rfl
 have hone : v.oneCell' = true := by obtain ⟨p, len, cap, rfl, _⟩ := hr.Hn hi; rfl
 have hs1 := hs.Aka
 have hm : MemR (fun b => A b ∧ Z.R b) w' L s σs σ := hs1.fact 0 rfl
 have hf : Frz (fun b => A b ∧ Z.R b) w' L i .any := ⟨fun z E' u c h => ⟨u, rfl, by rw [hi] at h; cases h; exact hone⟩, rfl, rfl⟩
 have hm2 := hm.subst hf
 have hmob : (L.map MD.Dn)[i]? = some (Mob.own e.size E v cs) := hr.Dn hi
 have hs2 := Mobs.Ade hs1 (Vx (m' := Mob.own e.size E v' (cs ++ ys)) hmob).symm
 have hs3 := Mobs.Ade (hs2.Apq 1 0) (List.Perm.swap _ _ _)
 have hs4 := Mobs.Ade hs3 ((Vx (m' := MD.dead.Dn) hmob).cons _)
 have hs5 : St A w' [Aki Z.R (L.set i .dead) ((s.Jl i .dead).sub i .any) σs σ, .old Z.M Z.w0] ((MD.own e.size E v' (cs ++ ys)).Dn :: (L.set i .dead).map MD.Dn) := by
  rw [List.map_set]
  exact (hs4.noF.Age (f := .old Z.M Z.w0) (hs4.fact 1 rfl)).Age (f := Aki Z.R (L.set i .dead) ((s.Jl i .dead).sub i .any) σs σ) hm2
 have hr2 := Rel.push (a := .arr E e (l ++ m)) hs5 ⟨rfl, rfl, h1⟩
 have hnew : s.new = (L.set i .dead).length := by rw [List.length_set, ← hr.len]; rfl
 refine ⟨_, A, _, hk, hr2.Cq (d := some dn) rfl ?_, fun g => g.elim⟩
 rw [hnew]; exact Akv
theorem Av0 (z : Array Value) (hz : 0 < z.size) (m : Nat) : ((List.replicate m z.toList).flatten).toArray = Builtin.zeroCells z m := by
 apply Array.ext
 ·simp [Builtin.zeroCells]
 ·intro j h1 h2
  simp only [Builtin.zeroCells, Array.getElem_map, Array.getElem_range]
  have h3 : j < m * z.size := by simpa [Builtin.zeroCells] using h2
  have h4 := Anc z.toList z.size (by simp) hz m j h3
  have h5 : j % z.size < z.size := Nat.mod_lt _ hz
  simp only [List.getElem_toArray]
  rw [List.getElem?_eq_getElem (by simpa using h1)] at h4
  simp [h5] at h4
  simp [h4, h5]
theorem Axy {E t t2 : TypeId} {e : ET} {y : Operand} {kk : List e.T → Option R} (hr : Rel Z s σs A L σ w) (ht : P.underlying t = some (.slice E)) (hel : ElemOk P E e.size) (h : Ayl P s E e t2 y kk = some r) :
  ∃ m ys, kk m = some r ∧ Az (Aj (fun b => A b ∧ Z.R b) w e) m ys ∧ ∀ (A1 : Reg) (F : List Fact) (LL : List Mob) (i ll : Nat) (vx : Value) (cs : List Value), St A1 w F LL → LL[i]? = some (.own e.size E vx cs) → cs.length = ll * e.size → ll + m.length ≤ LIM →
   ∃ v' w', (Builtin.append_ #[t, t2] ty #[vx, ev σ y]).run P w = .ok v' w' ∧ St A1 w' F (LL.set i (.own e.size E v' (cs ++ ys))) := by
 unfold Ayl at h
 split at h
 ·rename_i ht2
  split at h
  ·rename_i m0 hy
   split at h
   ·rename_i m hm
    unfold Aci at hm
    split at hm
    ·rename_i he
     cases he
     cases hm
     refine ⟨m0, Oo m0, h, Asl.Wu, fun A1 F LL i ll vx cs hs hL hlen hlim => ?_⟩
     rw [Hh hr.mem.sl hy]
     exact Ae5 (x := y) (y := y) ht hel hs hL (Src.string ht2) (Aww m0) hlen (by simp [Oo, ET.size]) hlim
    ·cases hm
   ·cases h
  ·cases h
 ·rename_i et2 ht2
  split at h
  ·rename_i m hm
   have hV : (Cd s.sl y).isV = true := by
    cases hq : (Cd s.sl y).isV with
    | true => rfl
    | false => rcases Kc hq with h | h | ⟨_, _, _, h⟩ <;> rw [h] at hm <;> cases hm
   obtain ⟨c0, h1, h2⟩ := Ahs hr.mem hm (Gv hr.mem.sl y hV)
   have hrd : Rd (fun _ => True) w e.size (ev σ y) c0 := by
    rcases h2 with h2 | ⟨j, E', u, cs', _, h2, hpart⟩
    ·exact h2.step (fun _ _ => trivial) (fun _ _ => rfl)
    ·exact hpart _ _ (hr.Hn h2)
   have hly := h1.len fun x c h => Aj.len h
   exact ⟨m, c0, h, h1, fun A1 F LL i ll vx cs hs hL hlen hlim => Ae5 (x := y) (y := y) ht hel hs hL (Src.slice ⟨_, ht2⟩ hrd hly hel.pos) h1.Apd hlen hly hlim⟩
  ·cases h
 ·rename_i kk2 ht2
  split at h
  ·rename_i q z hq hz
   split at h
   ·rename_i x0 hx0
    obtain ⟨m, hm, h⟩ := bind_some h
    obtain ⟨h1, h2, rfl⟩ := Aql hm
    obtain ⟨zv, ⟨i0, hi0, hz0⟩, hz2⟩ := Qd hz
    have hx1 := Qn hx0 (hz2 (fun b => A b ∧ Z.R b) w L)
    have hall := Ap2 hx1 q.toNat
    refine ⟨_, _, h, hall, fun A1 F LL i ll vx cs hs hL hlen hlim => ?_⟩
    rw [Amp hq (Gv hr.mem.sl y (Ape hq)), h1]
    have hzs : zv.cells.size = e.size := by have := hx1.len; simpa using this
    rw [List.length_replicate] at hlim
    exact Apt (x := y) (y := y) (ly := q.toNat) ht hel hs hL ⟨_, ht2⟩ (fun i z' hi hz' => by rw [hi0] at hi; cases hi; rw [hz0] at hz'; cases hz'; exact Av0 zv.cells (by rw [hzs]; exact hel.pos) _)
     hall.Apd hlen ((hall.len fun x c h => Aj.len h).trans (by simp)) hlim
   ·cases h
  ·cases h
 ·cases h
theorem At2 {t t2 : TypeId} {x y : Operand} {dn : Nat} (hr0 : Rel Z s σs A L σ w) (hd : Dx n ⟨some dn, .call ⟨.builtin .append, #[x, y], #[t, t2]⟩, ty, pos, after, none⟩ = true)
  (h : Amo P s (some dn) x y t t2 k = some r) : Kh P n ops ⟨some dn, .call ⟨.builtin .append, #[x, y], #[t, t2]⟩, ty, pos, after, none⟩ Z s σs k r False A L σ w := by
 unfold Amo at h
 split at h
 ·cases h
 ·rename_i E hE
  split at h
  ·cases h
  ·rename_i e he
   obtain ⟨hb, h⟩ := Ak h
   simp only [Bool.and_eq_true] at hb
   have hel := Ai3 hb.1
   split at h
   ·cases h
   ·rename_i s1 i hown
    obtain ⟨L1, hr, cs, hi⟩ := Aqf hr0 hel.pos hb.2 hown
    split at h
    ·cases h
    ·rename_i l hl
     obtain ⟨E', hit⟩ := Aw1 hl
     obtain ⟨v1, cs1, h1, h2⟩ := hr.mem.arr hit
     rw [hi] at h1; cases h1
     have hlen := h2.len fun x c h => Aj.len h
     obtain ⟨m, ys, hk, hm, hrun⟩ := Axy (ty := ty) hr0 (Ac3 hE) hel h
     obtain ⟨r', ha, hk⟩ := bind_some hk
     obtain ⟨h3, rfl⟩ := Aov ha
     have hF := St.Age (f := Alg Z.R L1 (.arr E e (l ++ m)) (cs ++ ys)) hr (h2.append hm)
     obtain ⟨v', w', h4, h5⟩ := hrun A _ _ i l.length (ev σ x) cs hF (hr.Dn hi) hlen h3
     refine WL.val (v := v') (w' := w') rfl rfl (Xh hd) ?_ (WL.nil (Arr hr hi (h2.append hm) h5 hk))
     simp [execOp, resolve, invoke, builtin, h4]
end Go.Rx
set_option linter.unusedVariables false
set_option linter.unusedSimpArgs false
namespace Go.Rx
open Go Go.Lv
variable {P : Program} {B : Reg} {w w' : World} {L L' : List MD} {s : S} {σs : List Env} {σ : Env} {Z : Fix} {A A' : Reg} {n : Nat} {ops : Array Oper} {rest : List Oper} {K : Env → World → Prop}
variable {R : Type} {k : S → Option R} {r : R} {d : Option Nat} {ty : TypeId} {pos : String} {after : Array Edge}
theorem An6 {place : Nat → Option (Nat × Nat)} {acc ns : List Value} {i off z : Nat} {v : Value} {rest : List (Nat × Value)} (hp : place i = some (off, z)) (hv : v.cells = ns.toArray) (hz : ns.length = z) (hl : off + z ≤ acc.length) :
  Instr.fill place acc.toArray ((i, v) :: rest) = Instr.fill place (Am acc off ns).toArray rest := by
 have hf := Abw off ns 0 acc (by omega)
 have hfold : v.cells.zipIdx.foldl (fun cs (x : Value × Nat) => cs.setIfInBounds (off + x.2) x.1) acc.toArray = (Am acc off ns).toArray := by
  rw [hv, ← Array.foldl_toList, Array.toList_zipIdx]; simpa using hf
 simp only [Instr.fill, hp]
 have hc : (decide (v.cells.size ≠ z) || decide (off + v.cells.size > acc.toArray.size)) = false := by rw [hv]; simp; omega
 rw [if_neg (by rw [hc]; simp)]
 show Instr.fill _ (v.cells.zipIdx.foldl (fun cs (x : Value × Nat) => cs.setIfInBounds (off + x.2) x.1) acc.toArray) _ = _
 rw [hfold]
def places : List PV → Nat → List (Nat × Nat)
 | [], _ => []
 | v :: vs, off => (off, v.size) :: places vs (off + v.size)
theorem Amf : ∀ {l : List PV} {i off : Nat} {u : PV}, l[i]? = some u → (places l off)[i]? = some (off + Alw l i, u.size)
 | [], _, _, _, h => by simp at h
 | a :: l, 0, off, u, h => by simp at h; subst h; rfl
 | a :: l, i + 1, off, u, h => by
  have := Amf (l := l) (i := i) (off := off + a.size) (by simpa using h)
  simpa [places, Alw, Nat.add_assoc] using this
theorem Am0 : ∀ {l : List PV} {i off : Nat} {u v : PV}, l[i]? = some u → u.size = v.size → places (l.set i v) off = places l off
 | [], _, _, _, _, h, _ => by simp at h
 | a :: l, 0, off, u, v, h, hs => by simp at h; subst h; simp [places, hs]
 | a :: l, i + 1, off, u, v, h, hs => by simp [places, Am0 (l := l) (i := i) (by simpa using h) hs]
theorem Ajr : ∀ {fs : List Field} {vs : List PV} {off : Nat}, Uq P fs vs off = true → (fs.map fun f => (f.offset, (P.info? f.type).map (·.size))) = (places vs off).map fun p => (p.1, some p.2)
 | [], [], _, _ => rfl
 | [], _ :: _, _, h => by simp [Uq] at h
 | _ :: _, [], _, h => by simp [Uq] at h
 | f :: fs, v :: vs, off, h => by
  simp only [Uq, Bool.and_eq_true] at h
  obtain ⟨⟨h1, h2⟩, h3⟩ := h
  split at h2
  ·rename_i i hi
   simp [places, Ajr h3, hi, Be h1, Be h2]
  ·cases h2
theorem Ajk (hr : Rel Z s σs A L σ w) {pl : List (Nat × Nat)} : ∀ {parts : List (Nat × Operand)} {zs l : List PV} {acc : List Value}, Ace (parts.map fun p => (p.1, Cd s.sl p.2)) zs = some l →
  places zs 0 = pl → EncC.go (fun b => A b ∧ Z.R b) w L zs acc → ∃ cells, Instr.fill (pl[·]?) acc.toArray (parts.map fun p => (p.1, ev σ p.2)) = some cells.toArray ∧ EncC.go (fun b => A b ∧ Z.R b) w L l cells
 | [], zs, l, acc, h, _, ha => by simp only [List.map_nil, Ace, Option.some.injEq] at h; subst h; exact ⟨acc, rfl, ha⟩
 | (i, x) :: ps, zs, l, acc, h, hpl, ha => by
  subst hpl
  simp only [List.map_cons, Ace] at h
  split at h
  ·rename_i u hu
   obtain ⟨hb, h⟩ := Ak h
   simp only [Bool.and_eq_true] at hb
   have hsz := Be hb.1
   obtain ⟨ns, h1, h2⟩ := Qo hr (We hr.mem.sl (x := x) hb.2)
   obtain ⟨c1, c2, c3, e, h3, h4, h5⟩ := EncC.field ha hu
   have hlen := h2.len
   have hlen2 := h4.len
   obtain ⟨cells, h6, h7⟩ := Ajk hr (zs := zs.set i (Cd s.sl x)) (acc := c1 ++ (ns ++ c3)) h (by rw [Am0 hu hsz]) (h5 _ _ h2)
   refine ⟨cells, ?_, h7⟩
   rw [List.map_cons, An6 (off := c1.length) (z := u.size) (ns := ns) (by rw [Amf hu, Nat.zero_add, h3]) h1 (by omega) (by rw [e]; simp; omega), e, Xj (by omega)]
   exact h6
  ·cases h
theorem Arf (hr : Rel Z s σs A L σ w) {e : ET} : ∀ {parts : List (Nat × Operand)} {l l' : List e.T} {acc : List Value}, Ana e (parts.map fun p => (p.1, Cd s.sl p.2)) l = some l' →
  Az (Aj (fun b => A b ∧ Z.R b) w e) l acc → ∃ cells, Instr.fill (fun i => some (i * e.size, e.size)) acc.toArray (parts.map fun p => (p.1, ev σ p.2)) = some cells.toArray ∧ Az (Aj (fun b => A b ∧ Z.R b) w e) l' cells ∧ l'.length = l.length
 | [], l, l', acc, h, ha => by simp only [List.map_nil, Ana, Option.some.injEq] at h; subst h; exact ⟨acc, rfl, ha, rfl⟩
 | (i, x) :: ps, l, l', acc, h, ha => by
  simp only [List.map_cons, Ana] at h
  split at h
  ·rename_i u y hu hy
   obtain ⟨ns, h1, h2⟩ := Qo hr (We hr.mem.sl (x := x) (Az2 hy))
   have h3 := Qn hy h2
   obtain ⟨c1, c2, c3, e', h4, h5, h6⟩ := Az.get (fun x c h => Aj.len h) ha hu
   have hlen := h3.len
   have hlen2 := h5.len
   obtain ⟨cells, h7, h8, h9⟩ := Arf hr (l := l.set i y) (acc := c1 ++ (ns ++ c3)) h (h6 _ _ h3)
   refine ⟨cells, ?_, h8, by rw [h9, List.length_set]⟩
   rw [List.map_cons, An6 (off := c1.length) (z := e.size) (ns := ns) (by rw [h4]) h1 hlen (by rw [e']; simp; omega), e', Xj (by omega)]
   exact h7
  ·cases h
theorem Aui {t et : TypeId} {m z : Nat} {parts : List (Nat × Operand)} {zv : Value} {cells : List Value} (ht : P.underlying t = some (.array m et)) (hz : ∃ i, P.info? t = some i ∧ i.zero = some zv) (hsz : SizeIs P et z)
  (hf : Instr.fill (fun i => some (i * z, z)) zv.cells (parts.map fun p => (p.1, ev σ p.2)) = some cells.toArray) (w : World) : XO P σ w (.build t parts.toArray) (.agg cells.toArray) := fun _ _ _ _ _ => by
 obtain ⟨i, hi, hz⟩ := hz
 simp only [execOp, Instr.build, Sem.run_bind, zeroValue, typeInfo]
 simp [hi, hz, run_underlying ht, Aq hsz, hf]
theorem Awe {t : TypeId} {ps : Array (Nat × Operand)} {G : Prop} (hr : Rel Z s σs A L σ w) (hd : Dx n ⟨d, .build t ps, ty, pos, after, none⟩ = true) (h : Api P s d t ps.toList k = some r) :
  Kh P n ops ⟨d, .build t ps, ty, pos, after, none⟩ Z s σs k r G A L σ w := by
 have hps : ps = ps.toList.toArray := by simp
 rw [show (⟨d, .build t ps, ty, pos, after, none⟩ : Oper) = ⟨d, .build t ps.toList.toArray, ty, pos, after, none⟩ by rw [← hps]]
 unfold Api at h
 split at h
 ·rename_i fs zs ht hz
  obtain ⟨hb, h⟩ := Ak h
  obtain ⟨z, ⟨i, hi, hz0⟩, hz2⟩ := Qd hz
  split at h
  ·rename_i l hl
   obtain ⟨cells, h1, h2⟩ := Ajk hr (pl := places zs 0) hl rfl (show EncC.go _ w L zs _ from hz2 _ _ _)
   have hst : Wj P t (places zs 0) z.cells.toList := by
    unfold Wj Xn
    rw [ht]
    simp only [Ajr hb, hi, hz0, Option.map_some]
   exact Br hr (d := d) (o := .build t ps.toList.toArray) (by simpa using hd) (X.build hst rfl (by simpa using h1)) rfl (show Cb _ w L (.agg l) _ from ⟨cells, rfl, h2⟩) h
  ·cases h
 ·rename_i m et e0 l0 ht hz
  split at h
  ·rename_i m' a l
   split at h
   ·rename_i inf l' hinf hl
    obtain ⟨hb, h⟩ := Ak h
    obtain ⟨z, hz1, hz2⟩ := Qd hz
    obtain ⟨h0, h0'⟩ : l.length = m' ∧ Az (Aj (fun b => A b ∧ Z.R b) w a) l z.cells.toList := hz2 _ _ L
    obtain ⟨cells, h1, h2, h3⟩ := Arf hr hl h0'
    have := Aui (σ := σ) (parts := ps.toList) ht hz1 (Cc hinf hb) (by simpa using h1) w
    exact Br hr (d := d) (o := .build t ps.toList.toArray) (by simpa using hd) this rfl (show Cb _ w L (.val (.vec m' a) l') _ from ⟨cells, rfl, h3.trans h0, h2⟩) h
   ·cases h
  ·cases h
 ·cases h
end Go.Rx
set_option linter.unusedVariables false
set_option linter.unusedSimpArgs false
namespace Go.Rx
open Go Go.Lv
variable {P : Program} {B B' : Reg} {w w' : World} {L L' : List MD} {s : S} {σs : List Env} {σ : Env} {Z : Fix} {A A' : Reg} {n : Nat}
def Zh (B : Reg) (w : World) (L : List MD) (B' : Reg) (w' : World) (L' : List MD) (q q' : PV) : Prop := q'.isA = q.isA ∧ ∀ cs, EncC B w L q cs → EncC B' w' L' q' cs
inductive All2 {α β : Type} (f : α → β → Prop) : List α → List β → Prop
 | nil : All2 f [] []
 | cons {a b l m} : f a b → All2 f l m → All2 f (a :: l) (b :: m)
theorem All2.split {α β : Type} {f : α → β → Prop} : ∀ {l1 l2 : List α} {m : List β}, All2 f (l1 ++ l2) m → ∃ m1 m2, m = m1 ++ m2 ∧ All2 f l1 m1 ∧ All2 f l2 m2
 | [], _, m, h => ⟨[], m, rfl, .nil, h⟩
 | a :: l1, l2, _, .cons h1 h2 => let ⟨m1, m2, e, h3, h4⟩ := All2.split h2; ⟨_ :: m1, m2, by rw [e]; rfl, .cons h1 h3, h4⟩
mutual
theorem Afy : ∀ {sh : Sh} {p : PV} {ls ls' rest : List PV} {cs : List Value}, Hk sh p = some ls → EncC B w L p cs → All2 (Zh B w L B' w' L') ls ls' → ∃ p', Gp sh (ls' ++ rest) = some (p', rest) ∧ p'.isA = p.isA ∧ EncC B' w' L' p' cs
 | .lf e o, p, ls, ls', rest, cs, h, hp, ha => by
  simp only [Hk, Option.some.injEq] at h
  subst h
  cases ha with
  | cons h1 h2 =>
   cases h2
   exact ⟨_, rfl, h1.1, h1.2 _ hp⟩
 | .agg l, p, ls, ls', rest, cs, h, hp, ha => by
  cases p <;> simp only [Hk, reduceCtorEq] at h
  rename_i vs
  obtain ⟨us, h1, h2⟩ := Ajg (rest := rest) h (show EncC.go B w L vs cs from hp) ha
  exact ⟨.agg us, by simp only [Gp, h1], rfl, h2⟩
theorem Ajg : ∀ {l : List Sh} {ps : List PV} {ls ls' rest : List PV} {cs : List Value}, Hk.go l ps = some ls → EncC.go B w L ps cs → All2 (Zh B w L B' w' L') ls ls' → ∃ ps', Gp.go l (ls' ++ rest) = some (ps', rest) ∧ EncC.go B' w' L' ps' cs
 | [], [], ls, ls', rest, cs, h, hp, ha => by
  simp only [Hk.go, Option.some.injEq] at h; subst h
  cases ha
  exact ⟨[], rfl, hp⟩
 | a :: l, p :: ps, ls, ls', rest, cs, h, ⟨c1, c2, e, hp1, hp2⟩, ha => by
  simp only [Hk.go] at h
  split at h
  ·rename_i x y hx hy
   cases h
   obtain ⟨m1, m2, rfl, h1, h2⟩ := ha.split
   obtain ⟨p', h3, _, h4⟩ := Afy (rest := m2 ++ rest) hx hp1 h1
   obtain ⟨ps', h5, h6⟩ := Ajg (rest := rest) hy hp2 h2
   exact ⟨p' :: ps', by simp only [Gp.go, List.append_assoc, h3, h5], c1, c2, e, h4, h6⟩
  ·cases h
 | [], _ :: _, _, _, _, _, h, _, _ => by simp [Hk.go] at h
 | _ :: _, [], _, _, _, _, h, _, _ => by simp [Hk.go] at h
end
theorem Ad0 : ∀ {l : List Sh} {ps : List PV} {ls ls' rest : List PV} {us : List Value}, Hk.go l ps = some ls → EncVs B w L ps us → All2 (Zh B w L B' w' L') ls ls' → ∃ ps', Gp.go l (ls' ++ rest) = some (ps', rest) ∧ EncVs B' w' L' ps' us
 | [], [], ls, ls', rest, us, h, hp, ha => by
  simp only [Hk.go, Option.some.injEq] at h; subst h
  cases ha
  exact ⟨[], rfl, hp⟩
 | a :: l, p :: ps, ls, ls', rest, us, h, ⟨v, us', e, hp1, hp2⟩, ha => by
  simp only [Hk.go] at h
  split at h
  ·rename_i x y hx hy
   cases h
   obtain ⟨m1, m2, rfl, h1, h2⟩ := ha.split
   have key : ∃ p', Gp a (m1 ++ (m2 ++ rest)) = some (p', m2 ++ rest) ∧ asV p'.isA (EncC B' w' L' p') v := by
    cases hA : p.isA with
    | true =>
     rw [hA] at hp1
     obtain ⟨cs, e1, hc⟩ := hp1
     obtain ⟨p', h3, h4, h5⟩ := Afy (rest := m2 ++ rest) hx hc h1
     exact ⟨p', h3, by rw [h4, hA]; exact ⟨cs, e1, h5⟩⟩
    | false =>
     rw [hA] at hp1
     obtain ⟨p', h3, h4, h5⟩ := Afy (rest := m2 ++ rest) hx hp1 h1
     exact ⟨p', h3, by rw [h4, hA]; exact h5⟩
   obtain ⟨p', h3, h4⟩ := key
   obtain ⟨ps', h5, h6⟩ := Ad0 (rest := rest) hy hp2 h2
   exact ⟨p' :: ps', by simp only [Gp.go, List.append_assoc, h3, h5], v, us', e, h4, h6⟩
  ·cases h
 | [], _ :: _, _, _, _, _, h, _, _ => by simp [Hk.go] at h
 | _ :: _, [], _, _, _, _, h, _, _ => by simp [Hk.go] at h
theorem Aht {l : List Sh} {ps ls ls' : List PV} {us : List Value} (h : As3 l ps = some ls) (hp : EncVs B w L ps us) (ha : All2 (Zh B w L B' w' L') ls ls') : ∃ ps', Ab6 l ls' = some ps' ∧ EncVs B' w' L' ps' us := by
 obtain ⟨ps', h1, h2⟩ := Ad0 (rest := []) h hp ha
 rw [List.append_nil] at h1
 exact ⟨ps', by simp only [Ab6, h1], h2⟩
theorem Aq7 {e : ET} {q : PV} {x : e.T} (h : Aav s e q = some x) : (∃ e0, e = .list e0) ∨ (∃ e' x', q = .val e' x' ∧ Aci e' e x' = some x) := by
 unfold Aav at h
 split at h
 ·exact .inl ⟨_, rfl⟩
 ·exact .inr ⟨_, _, rfl, h⟩
 ·cases h
theorem cast_eq {e e' : ET} {x : e.T} {y : e'.T} (h : Aci e e' x = some y) : PV.val e x = PV.val e' y := by
 unfold Aci at h
 split at h
 ·rename_i he; subst he; cases h; rfl
 ·cases h
theorem Auv {e : ET} {q : PV} {l : List e.T} (h : Ao8 s e q = some l) : elems s e q = some l ∧ q.isA = false ∧ q.size = 1 := by
 unfold Ao8 at h
 split at h
 ·cases h
 ·refine ⟨h, ?_⟩
  unfold elems at h
  split at h
  ·split at h
   ·exact ⟨rfl, rfl⟩
   ·cases h
  ·exact ⟨rfl, rfl⟩
  ·exact ⟨rfl, rfl⟩
  ·exact ⟨rfl, rfl⟩
  ·cases h
theorem Aqg (hr : Rel Z s σs A L σ w) {e : ET} {q : PV} {x : e.T} (h : Aav s e q = some x) (hb : ∀ b, A b ∧ Z.R b → B' b) (ho : ∀ i ∈ owns q, ∀ z E v c, L[i]? = some (.own z E v c) → Rd B' w z v c) : Zh (fun b => A b ∧ Z.R b) w L B' w L' q (.val e x) := by
 rcases Aq7 h with ⟨e0, rfl⟩ | ⟨e', x', rfl, hc⟩
 ·obtain ⟨h1, hA, h2⟩ := Auv (show Ao8 s e0 q = some x from h)
  refine ⟨by rw [hA]; rfl, fun cs hcs => ?_⟩
  have hP := hcs.Aia
  have hlen := hcs.len
  have : ∃ v, cs = [v] := by
   rw [h2] at hlen
   match cs, hlen with
   | [v], _ => exact ⟨v, rfl⟩
  obtain ⟨v, rfl⟩ := this
  have hv : Cb (fun b => A b ∧ Z.R b) w L q v := (Aa4 hP).2 (by unfold Df; rw [hA]; exact hcs)
  obtain ⟨c0, h3, h4⟩ := Ahs hr.mem h1 hv
  refine ⟨v, c0, rfl, ?_, h3.mono fun x c h => Aj.step hb (fun _ _ => rfl) h⟩
  rcases h4 with h4 | ⟨i, E, u, cs, hi, h4, hpart⟩
  ·exact h4.step hb (fun _ _ => rfl)
  ·exact hpart _ _ (ho i hi _ _ _ _ h4)
 ·have := cast_eq hc
  rw [this]
  exact ⟨rfl, fun cs h => Aj.step hb (fun _ _ => rfl) (show Aj _ w e x cs from h)⟩
theorem Atr {e : ET} {x : e.T} {s0 : S} : Ca e none x s0 = (.val e x, s0) := by cases e <;> rfl
theorem Ak2 (x : LTy []) (s0 : S) : Ce [] x s0 = ([], s0) := rfl
theorem Xw (p : ET × Option TypeId) (x : LTy [p]) (s0 : S) : Ce [p] x s0 = ([(Ca p.1 p.2 x s0).1], (Ca p.1 p.2 x s0).2) := rfl
theorem Sg (p q : ET × Option TypeId) (r : List (ET × Option TypeId)) (x : p.1.T) (y : LTy (q :: r)) (s0 : S) : Ce (p :: q :: r) (x, y) s0 =
  ((Ca p.1 p.2 x s0).1 :: (Ce (q :: r) y (Ca p.1 p.2 x s0).2).1, (Ce (q :: r) y (Ca p.1 p.2 x s0).2).2) := rfl
theorem pk0 {p : ET × Option TypeId} : Pc s [p] [] = none := rfl
theorem pk2 {p : ET × Option TypeId} {q r : PV} {qs : List PV} : Pc s [p] (q :: r :: qs) = none := rfl
theorem pk3 {q : PV} {qs : List PV} : Pc s [] (q :: qs) = none := rfl
theorem pk4 {p q : ET × Option TypeId} {r : List (ET × Option TypeId)} : Pc s (p :: q :: r) [] = none := rfl
theorem pk5 {p q : ET × Option TypeId} {r : List (ET × Option TypeId)} {v : PV} {vs : List PV} : Pc s (p :: q :: r) (v :: vs) = (match Aav s p.1 v, Pc s (q :: r) vs with | some x, some y => some ((x, y) : p.1.T × LTy (q :: r)) | _, _ => none) := rfl
theorem Aqo {qs : List PV} {x : LTy []} (h : Pc s [] qs = some x) : qs = [] := by
 match qs, h with
 | [], _ => rfl
 | _ :: _, h => rw [pk3] at h; cases h
theorem Aqt {p : ET × Option TypeId} {qs : List PV} {x : LTy [p]} (h : Pc s [p] qs = some x) : ∃ q, qs = [q] ∧ Aav s p.1 q = some x := by
 match qs, h with
 | [], h => rw [pk0] at h; cases h
 | [q], h => exact ⟨q, rfl, h⟩
 | q :: r :: qs, h => rw [pk2] at h; cases h
theorem Aow {p q : ET × Option TypeId} {r : List (ET × Option TypeId)} {qs : List PV} {z : LTy (p :: q :: r)} (h : Pc s (p :: q :: r) qs = some z) :
  ∃ v vs, ∃ (x : p.1.T) (y : LTy (q :: r)), qs = v :: vs ∧ z = (x, y) ∧ Aav s p.1 v = some x ∧ Pc s (q :: r) vs = some y := by
 match qs, h with
 | [], h => rw [pk4] at h; cases h
 | v :: vs, h =>
  rw [pk5] at h
  split at h
  ·rename_i x y hx hy
   cases h
   exact ⟨v, vs, x, y, rfl, rfl, hx, hy⟩
  ·cases h
def Fa (L : List MD) : List (ET × Option TypeId) → List PV → List MD
 | p :: r, v :: vs => match p.2 with
  | none => Fa L r vs
  | some E => (match p.1, v with
   | .list _, .own i => L.getD i .dead
   | .list a, _ => .own a.size E (.slice none 0 0) []
   | _, _ => .dead) :: Fa L r vs
 | _, _ => []
theorem Ah3 : ∀ {ls : List (ET × Option TypeId)} {vs : List PV} {is : List Nat}, Aof ls = true → consume s ls vs = some is → is = []
 | [], [], is, _, h => by simp [consume] at h; exact h
 | [], _ :: _, _, _, h => by simp [consume] at h
 | _ :: _, [], _, _, h => by simp [consume] at h
 | (e, none) :: r, v :: vs, is, hn, h => Ah3 (ls := r) (vs := vs) (by simpa [Aof] using hn) (by simpa [consume] using h)
 | (e, some _) :: r, v :: vs, is, hn, h => by simp [Aof] at hn
theorem Agg {N : Reg} : ∀ {ls : List (ET × Option TypeId)} {vs : List PV} {is : List Nat} {A : Reg}, consume s ls vs = some is → Mobs w A (is.map fun i => (L.getD i .dead).Dn) → Mobs w A ((Fa L ls vs).map MD.Dn)
 | [], [], _, _, _, _ => trivial
 | [], _ :: _, _, _, h, _ => by simp [consume] at h
 | _ :: _, [], _, _, h, _ => by simp [consume] at h
 | (e, none) :: r, v :: vs, is, A, h, hm => Agg (N := N) (ls := r) (vs := vs) (by simpa [consume] using h) hm
 | (e, some E) :: r, v :: vs, is, A, h, hm => by
  simp only [consume] at h
  split at h
  ·rename_i a
   exact ⟨none, ⟨none, 0, 0, rfl, by simp, Nat.le_refl _, fun _ => rfl, fun _ => rfl, fun b h => by cases h⟩, fun b hb => (by cases hb), (Agg (N := N) h hm).Nl fun b hb => hb.elim id (fun h => by cases h)⟩
  ·rename_i a i
   split at h
   ·rename_i E' a' l hi
    obtain ⟨_, h⟩ := Ak h
    simp only [Option.map_eq_some_iff] at h
    obtain ⟨is', h1, rfl⟩ := h
    obtain ⟨o, g1, g2, g3⟩ := hm
    exact ⟨o, g1, g2, Agg (N := N) h1 g3⟩
   ·cases h
  ·cases h
theorem Aon {B1 : Reg} (hr : Rel Z s σs A L σ w) (hb : ∀ b, A b ∧ Z.R b → B1 b) : ∀ (ls : List (ET × Option TypeId)) (vs : List PV) (x : LTy ls) (is : List Nat) (s0 : S) (Lx LF : List MD),
  Pc s ls vs = some x → consume s ls vs = some is → (∀ i ∈ Gw ls vs, ∀ z E v c, L[i]? = some (.own z E v c) → Rd B1 w z v c) → Lx.length = s0.it.length → LF = Lx ++ Fa L ls vs →
  ∃ its, (Ce ls x s0).2 = ⟨s0.sl, s0.it ++ its, s0.st⟩ ∧ its.length = (Fa L ls vs).length ∧ All2 (Zh (fun b => A b ∧ Z.R b) w L B1 w LF) vs (Ce ls x s0).1 ∧
   ∀ (i : Nat) (a : Item) (m : MD), its[i]? = some a → (Fa L ls vs)[i]? = some m → ItemR B1 w LF a m
 | [], vs, x, is, s0, Lx, LF, hp, hc, _, _, _ => by
  rw [Aqo hp]
  refine ⟨[], ?_, rfl, All2.nil, fun i a m h => by simp at h⟩
  rw [Ak2]; simp
 | p :: ls, vs, x, is, s0, Lx, LF, hp, hc, ho, hlen, hLF => by
  have main : ∀ (v : PV) (vs' : List PV) (x1 : p.1.T) (rest : S → List PV × S), vs = v :: vs' → Aav s p.1 v = some x1 →
    (Ce (p :: ls) x s0 = ((Ca p.1 p.2 x1 s0).1 :: (rest (Ca p.1 p.2 x1 s0).2).1, (rest (Ca p.1 p.2 x1 s0).2).2)) →
    (∀ (is : List Nat) (s1 : S) (Lx : List MD), consume s ls vs' = some is → (∀ i ∈ Gw ls vs', ∀ z E v c, L[i]? = some (.own z E v c) → Rd B1 w z v c) → Lx.length = s1.it.length → LF = Lx ++ Fa L ls vs' →
     ∃ its, (rest s1).2 = ⟨s1.sl, s1.it ++ its, s1.st⟩ ∧ its.length = (Fa L ls vs').length ∧ All2 (Zh (fun b => A b ∧ Z.R b) w L B1 w LF) vs' (rest s1).1 ∧
      ∀ (i : Nat) (a : Item) (m : MD), its[i]? = some a → (Fa L ls vs')[i]? = some m → ItemR B1 w LF a m) →
    ∃ its, (Ce (p :: ls) x s0).2 = ⟨s0.sl, s0.it ++ its, s0.st⟩ ∧ its.length = (Fa L (p :: ls) vs).length ∧ All2 (Zh (fun b => A b ∧ Z.R b) w L B1 w LF) vs (Ce (p :: ls) x s0).1 ∧
     ∀ (i : Nat) (a : Item) (m : MD), its[i]? = some a → (Fa L (p :: ls) vs)[i]? = some m → ItemR B1 w LF a m := by
   intro v vs' x1 rest hvs hx hu hrest
   subst hvs
   rw [hu]
   obtain ⟨e, o⟩ := p
   cases o with
   | none =>
    have hc' : consume s ls vs' = some is := by simpa [consume] using hc
    have e1 : Ca e none x1 s0 = (.val e x1, s0) := Atr
    simp only [e1]
    obtain ⟨its, h1, h2, h3, h4⟩ := hrest is s0 Lx hc' (fun i hi => ho i (by simp [Gw, hi])) hlen hLF
    refine ⟨its, h1, h2, .cons (Aqg hr hx hb (fun i hi z E v c hL => ho i (by simp [Gw, hi]) z E v c hL)) h3, h4⟩
   | some E =>
    simp only [consume] at hc
    split at hc
    ·rename_i a
     have hx' : x1 = [] := by
      have : elems s a .nils = some x1 := hx
      simpa [elems] using this.symm
     subst hx'
     have e1 : Ca (.list a) (some E) [] s0 = (.own s0.new, s0.add (.arr E a [])) := rfl
     simp only [e1]
     obtain ⟨its, h1, h2, h3, h4⟩ := hrest is (s0.add (.arr E a [])) (Lx ++ [.own a.size E (.slice none 0 0) []]) hc (fun i hi => ho i (by simpa [Gw] using hi)) (by simp [S.add, hlen]) (by rw [hLF]; simp [Fa])
     refine ⟨.arr E a [] :: its, by rw [h1]; simp [S.add], by simp [Fa, h2], .cons ⟨rfl, fun cs hcs => ?_⟩ h3, fun i b m hi hm => ?_⟩
     ·refine ⟨a.size, E, .slice none 0 0, [], ?_, hcs⟩
      rw [hLF, S.new, ← hlen]
      simp [Fa]
     ·cases i with
      | zero =>
       simp [Fa] at hi hm
       subst hi hm
       exact ⟨rfl, rfl, rfl⟩
      | succ i => exact h4 i b m (by simpa using hi) (by simpa [Fa] using hm)
    ·rename_i a i
     split at hc
     ·rename_i E' a' l hi
      obtain ⟨hb1, hc1⟩ := Ak hc
      clear hc
      simp only [Bool.and_eq_true, decide_eq_true_eq] at hb1
      obtain ⟨hE, rfl⟩ := hb1
      have := Be hE
      subst this
      simp only [Option.map_eq_some_iff] at hc1
      obtain ⟨is', hc', rfl⟩ := hc1
      obtain ⟨u, cs0, g1, g2⟩ := hr.mem.arr hi
      have hx' : x1 = l := by
       have : elems s a' (.own i) = some x1 := hx
       simp [elems, hi] at this
       exact this.symm
      subst hx'
      have hg : L.getD i .dead = .own a'.size E' u cs0 := by simp [List.getD_eq_getElem?_getD, g1]
      have e1 : Ca (.list a') (some E') x1 s0 = (.own s0.new, s0.add (.arr E' a' x1)) := rfl
      simp only [e1]
      obtain ⟨its, h1, h2, h3, h4⟩ := hrest is' (s0.add (.arr E' a' x1)) (Lx ++ [.own a'.size E' u cs0]) hc' (fun i hi => ho i (by simpa [Gw] using hi)) (by simp [S.add, hlen]) (by rw [hLF]; simp only [Fa, hg]; simp)
      refine ⟨.arr E' a' x1 :: its, by rw [h1]; simp [S.add], by simp [Fa, h2], .cons ⟨rfl, fun cs hcs => ?_⟩ h3, fun q b m hq hm => ?_⟩
      ·obtain ⟨z, E2, v2, c2, k1, k2⟩ := hcs
       rw [g1] at k1; cases k1
       refine ⟨a'.size, E', u, cs0, ?_, k2⟩
       rw [hLF, S.new, ← hlen]
       simp only [Fa, hg]; simp
      ·cases q with
       | zero =>
        simp only [Fa, hg] at hq hm
        simp at hq hm
        subst hq hm
        exact ⟨rfl, rfl, g2.mono fun x c h => Aj.step hb (fun _ _ => rfl) h⟩
       | succ q => exact h4 q b m (by simpa using hq) (by simpa [Fa] using hm)
     ·cases hc
    ·cases hc
  cases ls with
  | nil =>
   obtain ⟨v, rfl, hx⟩ := Aqt hp
   exact main v [] x (fun s1 => ([], s1)) rfl hx (Xw p x s0) (fun is s1 Lx _ _ hlen hLF => ⟨[], by simp, rfl, All2.nil, fun i a m h => by simp at h⟩)
  | cons q r =>
   obtain ⟨v, vs', x1, y', rfl, rfl, hx, hy⟩ := Aow hp
   exact main v vs' x1 (fun s1 => Ce (q :: r) y' s1) rfl hx (Sg p q r x1 y' s0)
    (fun is s1 Lx hc ho hlen hLF => Aon hr hb (q :: r) vs' y' is s1 Lx LF hy hc ho hlen hLF)
theorem Aqx : ∀ (a b : List PV), owns.go (a ++ b) = owns.go a ++ owns.go b
 | [], b => rfl
 | x :: a, b => by simp [owns.go, Aqx a b]
mutual
theorem Asv : ∀ {sh : Sh} {p : PV} {ls : List PV}, Hk sh p = some ls → owns.go ls = owns p
 | .lf e o, p, ls, h => by simp only [Hk, Option.some.injEq] at h; subst h; simp [owns.go]
 | .agg l, p, ls, h => by cases p <;> simp only [Hk, reduceCtorEq] at h; exact Afs h
theorem Afs : ∀ {l : List Sh} {ps ls : List PV}, Hk.go l ps = some ls → owns.go ls = owns.go ps
 | [], [], ls, h => by simp only [Hk.go, Option.some.injEq] at h; subst h; rfl
 | a :: l, p :: ps, ls, h => by
  simp only [Hk.go] at h
  split at h
  ·rename_i x y hx hy; cases h; rw [Aqx, Asv hx, Afs hy]; rfl
  ·cases h
 | [], _ :: _, _, h => by simp [Hk.go] at h
 | _ :: _, [], _, h => by simp [Hk.go] at h
end
structure KeepN (N : Reg) (w w' : World) : Prop where
 same : ∀ b, b < w.heap.size → N b → w'.heap[b]? = w.heap[b]?
 gr : Gr w w'
def GlOk (gl : List (Nat × List Value)) (N : Reg) (w : World) : Prop := ∀ p ∈ gl, p.1 < w.heap.size ∧ N p.1 ∧ ∃ T fr, w.heap[p.1]? = some (.cells p.2.toArray T fr)
def ResOk (gl : List (Nat × List Value)) (R N : Reg) (w w' : World) (rs : List Sh) (y : LTy (shL rs)) (us : List Value) : Prop :=
 KeepN N w w' ∧ ∃ (A1 : Reg) (L1 : List MD), (∀ b, A1 b → (¬ N b ∨ w.heap.size ≤ b) ∧ b < w'.heap.size) ∧ Mobs w' (fun b => A1 b ∨ (b < w.heap.size ∧ N b)) (L1.map MD.Dn) ∧
  ∀ (s : S) (L : List MD) (B' : Reg), L.length = s.it.length → (∀ b, A1 b → B' b) → (Axc rs = true → ∀ b, (R b ∧ N b) ∨ (∃ p ∈ gl, p.1 = b) → B' b) →
   ∃ ps its, (Ce (shL rs) y s).2 = ⟨s.sl, s.it ++ its, s.st⟩ ∧ Ab6 rs (Ce (shL rs) y s).1 = some ps ∧ EncVs B' w' (L ++ L1) ps us ∧ its.length = L1.length ∧
   ∀ (i : Nat) (a : Item) (m : MD), its[i]? = some a → L1[i]? = some m → ItemR B' w' (L ++ L1) a m
structure ConOk (P : Program) (gl : List (Nat × List Value)) (f : Nat) (c : Con) : Prop where
 ent : Ent P f
 ok : ∀ (R N : Reg) (w : World) (L0 : List MD) (vs : List Value) (ps : List PV) (x : LTy (shL c.ps)) (y : LTy (shL c.rs)), args c.ps x = some ps → (argI c.ps x).length = L0.length →
  (∀ (i : Nat) (a : Item) (m : MD), (argI c.ps x)[i]? = some a → L0[i]? = some m → ItemR (fun b => R b ∧ N b) w L0 a m) → Mobs w N (L0.map MD.Dn) → EncVs (fun b => R b ∧ N b) w L0 ps vs → GlOk gl N w → c.fn x = some y →
  Calls P f vs.toArray w fun e w' => ∃ us, e = .returned (packRes us) ∧ ResOk gl R N w w' c.rs y us
end Go.Rx
set_option linter.unusedVariables false
set_option linter.unusedSimpArgs false
namespace Go.Rx
open Go Go.Lv
variable {P : Program} {B B' : Reg} {w w' : World} {L L' : List MD} {s : S} {σs : List Env} {σ : Env} {Z : Fix} {A A' : Reg} {n : Nat} {ops : Array Oper}
variable {R : Type} {k : S → Option R} {r : R} {d : Option Nat} {ty : TypeId} {pos : String} {after : Array Edge} {T : Tab} {inl : Inl R}
def Abg (P : Program) (gl : List (Nat × List Value)) (inl : Inl R) : Prop := ∀ (Z : Fix), Z.gl = gl → ∀ (f : Nat) (as : List PV) (s : S) (k : S → PV → Option R) (r : R) (σs : List Env) (A : Reg) (L : List MD) (σ : Env) (w : World) (vs : List Value),
 inl f as s k = some r → Rel Z s σs A L σ w → EncVs (fun b => A b ∧ Z.R b) w L as vs → Ent P f ∧ Calls P f vs.toArray w fun e w' => ∃ v p s' A' L', e = .returned v ∧ k s' p = some r ∧ Rel Z s' σs A' L' σ w' ∧ p.isV = true ∧ Cb (fun b => A' b ∧ Z.R b) w' L' p v
def Zi (P : Program) (T : Tab) : Prop := ∀ f c, T.get f = some c → ConOk P T.gl f c
def Ag9 (P : Program) (T : Tab) (Z : Fix) : Prop := Zi P T ∧ Z.gl = T.gl
theorem EncVs.step {q : List PV} {vs : List Value} (hb : ∀ b, B b → B' b) (hs : Same B w w') (hl : LeL L L') (h : EncVs B w L q vs) : EncVs B' w' L' q vs := EncC.Atp hb hs hl h
theorem EncVs.append : ∀ {p q : List PV} {us vs : List Value}, EncVs B w L p us → EncVs B w L q vs → EncVs B w L (p ++ q) (us ++ vs)
 | [], q, us, vs, h, h' => by rw [show us = [] from h]; exact h'
 | a :: p, q, us, vs, ⟨v, us', e, h1, h2⟩, h' => ⟨v, us' ++ vs, by rw [e]; rfl, h1, EncVs.append h2 h'⟩
theorem Aq5 {ps : List PV} {us : List Value} (h : EncVs B w L ps us) : (Aro ps).isV = true ∧ Cb B w L (Aro ps) (packRes us) := by
 match ps, us, h with
 | [], us, h => rw [show us = [] from h]; exact ⟨rfl, [], rfl, rfl⟩
 | [p], us, ⟨v, us', e, h1, h2⟩ =>
  rw [show us' = [] from h2] at e; subst e
  exact Ea h1
 | p :: q :: r, us, h =>
  obtain ⟨v, us', e, h1, v2, us2, e2, h2, h3⟩ := h
  subst e2 e
  exact ⟨rfl, v :: v2 :: us2, rfl, v, _, rfl, h1, v2, us2, rfl, h2, h3⟩
theorem Rel.Auf {w' : World} {A1 BX : Reg} {L1 : List MD} {its : List Item} (hr : Rel Z s σs A L σ w) (hBX : ∀ b, BX b → ¬ A b ∧ b < w.heap.size) (hY : Mobs w (fun b => A b ∨ BX b) (L.map MD.Dn))
  (hk : KeepN (fun b => ¬ BX b) w w') (hA1 : ∀ b, A1 b → (¬ ¬ BX b ∨ w.heap.size ≤ b) ∧ b < w'.heap.size)
  (hm : Mobs w' (fun b => A1 b ∨ (b < w.heap.size ∧ ¬ BX b)) (L1.map MD.Dn)) (hlen : its.length = L1.length)
  (hit : ∀ (i : Nat) (a : Item) (m : MD), its[i]? = some a → L1[i]? = some m → ItemR (fun b => (A b ∨ A1 b) ∧ Z.R b) w' (L ++ L1) a m) :
  Rel Z ⟨s.sl, s.it ++ its, s.st⟩ σs (fun b => A b ∨ A1 b) (L ++ L1) σ w' := by
 have hlt := St.lt hr
 have hsame : Same A w w' := fun b hb => hk.same b (hlt b hb) fun h => (hBX b h).1 hb
 have hmem : MemR (fun b => A b ∧ Z.R b) w' L s σs σ := Fact.step _ (hr.fact 0 (f := Aki Z.R L s σs σ) rfl) (fun _ h => h) hsame hk.gr
 have hold : (Fact.old Z.M Z.w0).holds A w' := Fact.step _ (hr.fact 1 (f := .old Z.M Z.w0) rfl) (fun _ h => h) hsame hk.gr
 have hl := LeL.append L L1
 have hst : St (fun b => A b ∨ A1 b) w' [.old Z.M Z.w0] (L1.map MD.Dn ++ L.map MD.Dn) := by
  refine ⟨fun b hb => hb.elim (fun h => Nat.lt_of_lt_of_le (hlt b h) hk.gr.le) (fun h => (hA1 b h).2), fun f hf => ?_, ?_⟩
  ·cases hf with
   | head => exact Fact.step _ hold (fun _ h => .inl h) (fun _ _ => rfl) (.refl _)
   | tail _ h => cases h
  ·refine Mobs.append (fun b => b < w.heap.size ∧ ¬ BX b) (fun b hb => Nat.lt_of_lt_of_le hb.1 hk.gr.le) (hm.Nl ?_) ?_
   ·rintro b ((h | h) | h)
    ·exact .inr ⟨hlt b h, fun hx => (hBX b hx).1 h⟩
    ·exact .inl h
    ·exact .inr h
   ·refine (hY.lt.step hk.gr.le fun b hb hn => hk.same b hb fun h => hn (.inl (.inr h))).Nl ?_
    rintro b ((h | h) | h)
    ·exact .inl (.inl h)
    ·rcases (hA1 b h).1 with h | h
     ·exact .inl (.inr (Classical.not_not.1 h))
     ·exact .inr h
    ·by_cases hx : BX b
     ·exact .inl (.inr hx)
     ·exact .inr (Nat.le_of_not_lt fun hl => h ⟨hl, hx⟩)
 have hb : ∀ b, A b ∧ Z.R b → (A b ∨ A1 b) ∧ Z.R b := fun b h => ⟨.inl h.1, h.2⟩
 refine Rel.as (Mobs.Ade hst List.perm_append_comm) (i := 0) rfl ⟨⟨?_, ?_⟩, hmem.sl.step hb (fun _ _ => rfl) hl, hmem.stk.step hb (fun _ _ => rfl) hl⟩ (by rw [List.map_append])
 ·simp [hmem.it.1, hlen]
 ·intro i a m g1 g2
  simp only at g1
  rcases Nat.lt_or_ge i s.it.length with hi | hi
  ·rw [List.getElem?_append_left hi] at g1
   rw [List.getElem?_append_left (by rw [← hmem.it.1]; exact hi)] at g2
   exact (hmem.it.2 i a m g1 g2).step hb (fun _ _ => rfl) hl
  ·rw [List.getElem?_append_right hi] at g1
   rw [List.getElem?_append_right (by rw [← hmem.it.1]; exact hi)] at g2
   rw [hmem.it.1] at g1
   exact hit _ a m g1 g2
theorem Mobs.split : ∀ {X Y : List Mob} {A : Reg}, Mobs w A (X ++ Y) → ∃ BX : Reg, (∀ b, BX b → ¬ A b ∧ b < w.heap.size) ∧ Mobs w (fun b => ¬ BX b) X ∧ Mobs w (fun b => A b ∨ BX b) Y
 | [], Y, A, h => ⟨fun _ => False, fun b hb => hb.elim, trivial, h.Nl fun b hb => hb.elim id fun h => h.elim⟩
 | m :: X, Y, A, ⟨o, h1, h2, h3⟩ => by
  obtain ⟨BX, g1, g2, g3⟩ := Mobs.split h3
  refine ⟨fun b => BX b ∨ o = some b, fun b hb => ?_, ⟨o, h1, fun b hb => ⟨fun h => h (.inr hb), (h2 b hb).2⟩, g2.Nl ?_⟩, g3.Nl ?_⟩
  ·rcases hb with hb | hb
   ·exact ⟨fun h => (g1 b hb).1 (.inl h), (g1 b hb).2⟩
   ·exact h2 b hb
  ·rintro b (hb | hb)
   ·exact fun h => hb (.inl h)
   ·exact fun h => (g1 b h).1 (.inr hb)
  ·rintro b (hb | hb | hb)
   ·exact .inl (.inl hb)
   ·exact .inr hb
   ·exact .inl (.inr hb)
theorem Mobs.Azw : ∀ {Y : List Mob} {A : Reg} {i : Nat} {m : Mob}, Mobs w A Y → Y[i]? = some m → ∃ o, m.holds o w ∧ ∀ b, o = some b → ¬ A b
 | _ :: _, A, 0, m, ⟨o, h1, h2, _⟩, h => ⟨o, by simp at h; exact h ▸ h1, fun b hb => (h2 b hb).1⟩
 | _ :: Y, A, i + 1, m, ⟨o, _, _, h3⟩, h => by
  obtain ⟨q, g1, g2⟩ := Mobs.Azw h3 (i := i) (by simpa using h)
  exact ⟨q, g1, fun b hb hA => g2 b hb (.inl hA)⟩
theorem Aqc {w : World} : MD.dead.Dn.holds none w := ⟨none, 0, 0, rfl, by simp, Nat.le_refl _, fun _ => rfl, fun _ => rfl, fun b h => by cases h⟩
theorem Ka {i : Nat} : ∀ {l : List Nat}, It i l = true ↔ i ∈ l
 | [] => by simp [It]
 | j :: l => by
  simp only [It, Bool.or_eq_true, List.mem_cons, Ka (l := l)]
  exact or_congr ⟨Be, fun h => by subst h; simp⟩ Iff.rfl
theorem Ai1 {f : Item → Item} (hf : f .dead = .dead) : ∀ {l : List Item} {i : Nat}, Bb (l.map f) i = f (Bb l i)
 | [], _ => by simp [Bb, hf]
 | _ :: _, 0 => rfl
 | _ :: r, i + 1 => by simpa [Bb] using Ai1 hf (l := r) (i := i)
theorem Aaq : ∀ {l : List Item} {i j : Nat}, Bb l i = .dead → Bb (Kk l j .dead) i = .dead
 | [], _, _, h => by simpa [Kk] using h
 | _ :: _, 0, 0, _ => rfl
 | _ :: _, 0, j + 1, h => by simpa [Kk, Bb] using h
 | _ :: _, i + 1, 0, h => by simpa [Kk, Bb] using h
 | _ :: r, i + 1, j + 1, h => by simpa [Kk, Bb] using Aaq (l := r) (i := i) (j := j) (by simpa [Bb] using h)
theorem Abl : ∀ {l : List Item} {i : Nat}, Bb (Kk l i .dead) i = .dead
 | [], _ => rfl
 | _ :: _, 0 => rfl
 | _ :: r, i + 1 => by simpa [Kk, Bb] using Abl (l := r) (i := i)
theorem Ang {i : Nat} : ∀ {is : List Nat} {s s' : S}, Bb s.it i = .dead → s.Ajy is = some s' → It i is = false
 | [], _, _, _, _ => rfl
 | j :: is, s, s', hd, h => by
  simp only [S.Ajy] at h
  split at h
  ·rename_i s1 h1
   unfold S.kill at h1
   split at h1
   ·rename_i E e l hj
    cases h1
    have hij : Nat.beq i j = false := by
     cases hb : Nat.beq i j with
     | false => rfl
     | true => rw [Be hb] at hd; rw [hd] at hj; cases hj
    have : Bb ((s.Jl j .dead).sub j .any).it i = .dead := by
     show Bb ((Kk s.it j .dead).map _) i = _
     rw [Ai1 rfl, Aaq hd]; rfl
    simp [It, hij, Ang this h]
   ·cases h1
  ·cases h
theorem Aqz : ∀ {is : List Nat} {s s' : S} {L : List MD}, MemR B w L s σs σ → (∀ (i z : Nat) (E : TypeId) (v : Value) (c : List Value), L[i]? = some (.own z E v c) → v.oneCell' = true) → s.Ajy is = some s' →
  ∃ L', MemR B w L' s' σs σ ∧ (is = [] → L' = L) ∧ (∀ j, It j is = false → L'[j]? = L[j]?) ∧ ∀ (A : Reg) (X : List Mob), Mobs w A (X ++ L.map MD.Dn) → Mobs w A (X ++ (is.map fun i => (L.getD i .dead).Dn) ++ L'.map MD.Dn)
 | [], s, s', L, hm, _, h => by
  simp only [S.Ajy, Option.some.injEq] at h; subst h
  exact ⟨L, hm, fun _ => rfl, fun _ _ => rfl, fun A X hX => by simpa using hX⟩
 | i :: is, s, s', L, hm, hone, h => by
  simp only [S.Ajy] at h
  split at h
  ·rename_i s1 h1
   unfold S.kill at h1
   split at h1
   ·rename_i E e l hi
    cases h1
    obtain ⟨v, cs, hL, _⟩ := hm.arr hi
    have hf : Frz B w L i .any := ⟨fun z E' u c h => ⟨u, rfl, by rw [hL] at h; cases h; exact hone _ _ _ _ _ hL⟩, rfl, rfl⟩
    have hm2 := hm.subst hf
    have hlt := (List.getElem?_eq_some_iff.1 hL).1
    obtain ⟨L', g1, g2, g3, g4⟩ := Aqz hm2 (fun j z E v c hj => by
     by_cases hji : j = i
     ·subst hji; rw [List.getElem?_set_self hlt] at hj; cases hj
     ·rw [List.getElem?_set_ne (Ne.symm hji)] at hj; exact hone _ _ _ _ _ hj) h
    refine ⟨L', g1, (fun e => by cases e), fun j hj => ?_, fun A X hX => ?_⟩
    ·simp only [It, Bool.or_eq_false_iff] at hj
     rw [g3 j hj.2, List.getElem?_set_ne (fun e => by subst e; simp at hj)]
    ·have hmob : (L.map MD.Dn)[i]? = some (L.getD i .dead).Dn := by simp [hL, List.getD_eq_getElem?_getD]
     have hX1 : Mobs w A (MD.dead.Dn :: (L.map MD.Dn).eraseIdx i ++ (X ++ [(L.getD i .dead).Dn])) := by
      have h1 : Mobs w A (MD.dead.Dn :: (X ++ L.map MD.Dn)) := ⟨none, Aqc, fun b hb => (by cases hb), hX.Nl fun b hb => hb.elim id fun h => by cases h⟩
      refine h1.perm (.cons _ ?_)
      have hp := (Afb hmob).symm
      refine (List.Perm.append_left X hp).trans ?_
      rw [show X ++ (L.getD i .dead).Dn :: (L.map MD.Dn).eraseIdx i = (X ++ [(L.getD i .dead).Dn]) ++ (L.map MD.Dn).eraseIdx i by simp]
      exact List.perm_append_comm
     have hX2 : Mobs w A ((X ++ [(L.getD i .dead).Dn]) ++ (L.set i .dead).map MD.Dn) := by
      refine hX1.perm (List.perm_append_comm.trans (List.Perm.append_left _ ?_))
      rw [List.map_set]; exact Vx hmob
     have := g4 A _ hX2
     have hni : It i is = false := Ang (s := (s.Jl i .dead).sub i .any) (by
      show Bb ((Kk s.it i .dead).map _) i = _
      rw [Ai1 rfl, Abl]; rfl) h
     have he : (is.map fun j => ((L.set i .dead).getD j .dead).Dn) = is.map fun j => (L.getD j .dead).Dn := by
      refine List.map_congr_left fun j hj => ?_
      have : j ≠ i := fun e => by
       subst e
       rw [Ka.2 hj] at hni; cases hni
      simp only [List.getD_eq_getElem?_getD, List.getElem?_set_ne (Ne.symm this)]
     rw [he] at this
     simpa using this
   ·cases h1
  ·cases h
theorem Aj.noL : ∀ {e : ET} {x : e.T} {cs : List Value}, e.Am8 = false → Aj B w e x cs → Aj B' w' e x cs
 | .int k, x, cs, _, h => h
 | .bool, x, cs, _, h => h
 | .str, x, cs, _, h => h
 | .list e, l, cs, hL, h => by cases hL
 | .vec m e, l, cs, hL, ⟨h1, h2⟩ => ⟨h1, h2.mono fun x c h => Aj.noL (e := e) hL h⟩
 | .cons a q, x, cs, hL, ⟨c1, c2, e, h1, h2⟩ => by
  simp only [ET.Am8, Bool.or_eq_false_iff] at hL
  exact ⟨c1, c2, e, Aj.noL hL.1 h1, Aj.noL hL.2 h2⟩
 | .nil, _, cs, _, h => h
theorem Anj : ∀ {ls : List (ET × Option TypeId)} {vs : List PV}, owns.go vs = [] → Gw ls vs = []
 | [], _, _ => by unfold Gw; rfl
 | _ :: _, [], _ => by unfold Gw; rfl
 | (e, o) :: ls, v :: vs, h => by
  simp only [owns.go, List.append_eq_nil_iff] at h
  cases o <;> simp [Gw, h.1, Anj h.2]
theorem Rel.out (hr : Rel Z s σs A L σ w) {b : Nat} (hb : ¬ A b) : Z.R b := by
 rcases Nat.lt_or_ge b Z.w0.heap.size with hlt | hge
 ·have hold := (hr.fact 1 (f := .old Z.M Z.w0) rfl).2 b hlt
  exact Z.mod b (Classical.byContradiction fun hM => hb (hold hM).1)
 ·exact Z.new b hge
theorem Axa {f : Nat} {caps : List PV} {as : Array Operand} {g : Operand} {ts : Array TypeId} {dn : Nat} {G : Prop} (hT : Ag9 P T Z) (hI : Abg P T.gl inl) (hr0 : Rel Z s σs A L σ w) (hg : Cd s.sl g = .fn f caps)
  (hd : Dx n ⟨some dn, .call ⟨.value g, as, ts⟩, ty, pos, after, none⟩ = true) (h : As0 P T inl s (some dn) f caps as.toList k = some r)
  (hG : G → ∃ c, T.get f = some c ∧ Aof (shL c.ps) = true ∧ (Ak3 c = false ∨ owns.go (as.toList.map (Cd s.sl)) = [])) :
  Kh P n ops ⟨some dn, .call ⟨.value g, as, ts⟩, ty, pos, after, none⟩ Z s σs k r G A L σ w := by
 obtain ⟨cvs, hgv, hcaps⟩ := Aw5 (Bl hr0.mem.sl hg rfl)
 have has : as = as.toList.toArray := by simp
 have hxe : Ent P f → XE P σ w (.call ⟨.value g, as, ts⟩) f (as.toList.map (ev σ) ++ cvs).toArray := fun he => by
  have := X.Azs (P := P) (σ := σ) (w := w) (args := as.toList) (ts := ts) he hgv rfl
  rw [← has] at this; exact this
 unfold As0 at h
 split at h
 ·rename_i c hc
  have hcon := hT.1 f c hc
  split at h
  ·have hc0 : cvs = [] := hcaps
   subst hc0
   split at h
   ·cases h
   ·rename_i ls0 hls0
    split at h
    ·cases h
    ·rename_i s1 hs1
     obtain ⟨A1, L1, hr, hsame⟩ : ∃ A1 L1, Rel Z s1 σs A1 L1 σ w ∧ (G → s1 = s ∧ A1 = A ∧ L1 = L) := by
      split at hs1
      ·rename_i hro
       obtain ⟨A1, L1, h1, h2⟩ := Gh hr0 hs1
       refine ⟨A1, L1, h1, fun g => h2 ?_⟩
       obtain ⟨c', hc', _, h3⟩ := hG g
       rw [hc] at hc'; cases hc'
       rcases h3 with h3 | h3
       ·rw [hro] at h3; cases h3
       ·exact Anj (by rw [Afs hls0]; exact h3)
      ·cases hs1; exact ⟨A, L, hr0, fun _ => ⟨rfl, rfl, rfl⟩⟩
     cases hP : Aq1 (as.toList.map (Cd s1.sl)) with
     | false => rw [hP] at h; cases h
     | true =>
     rw [hP] at h
     simp only [Bool.not_true, cond_false] at h; try dsimp only [Bj] at h
     split at h
     ·cases h
     ·rename_i ls hls
      cases hro2 : (Ak3 c && !(Gw (shL c.ps) ls).isEmpty) with
      | true => rw [hro2] at h; cases h
      | false =>
      rw [hro2] at h
      dsimp only [Bj, cond] at h
      split at h
      ·cases h
      ·rename_i x hx
       split at h
       ·cases h
       ·rename_i is his
        cases hdis : (!((Gw (shL c.ps) ls).all fun i => !It i is)) with
        | true => rw [hdis] at h; cases h
        | false =>
        rw [hdis] at h
        dsimp only [Bj, cond] at h
        split at h
        ·cases h
        ·rename_i s2 hs2
         obtain ⟨y, hy, h⟩ := bind_some h
         change (match Ab6 c.rs (Ce (shL c.rs) y s2).1 with | some vs => k ((Ce (shL c.rs) y s2).2.Cq (some dn) (Aro vs)) | none => none) = some r at h
         have hpv := Ak0 hr.mem.sl _ hP
         have hone : ∀ (i z : Nat) (E : TypeId) (v : Value) (c : List Value), L1[i]? = some (.own z E v c) → v.oneCell' = true := fun i z E v c hi => by
          obtain ⟨p, len, cap, rfl, _⟩ := hr.Hn hi; rfl
         obtain ⟨L2, hm2, hnil, hget, hmobs⟩ := Aqz hr.mem hone hs2
         obtain ⟨BX, hBX, hX, hY⟩ := Mobs.split (hmobs A1 [] (by simpa using St.mobs hr))
         have hr2 : Rel Z s2 σs A1 L2 σ w := Rel.as (h := (⟨St.lt hr, hr.facts, hY.Nl fun _ h => .inl h⟩ : St A1 w _ (L2.map MD.Dn))) (i := 1) rfl hm2 rfl
         have hL0 : Mobs w (fun b => ¬ BX b) ((Fa L1 (shL c.ps) ls).map MD.Dn) := Agg (N := fun _ => True) his (by simpa using hX)
         have key : ∀ R0 : Reg, (∀ b, A1 b ∧ Z.R b → R0 b) → (Gw (shL c.ps) ls = [] ∨ ∀ b, R0 b) → (Ak3 c = true → ∀ b, R0 b → A1 b ∧ Z.R b) →
           Kh P n ops ⟨some dn, .call ⟨.value g, as, ts⟩, ty, pos, after, none⟩ Z s σs k r G A L σ w := by
          intro R0 h1 h2 h3
          have hb1 : ∀ b, A1 b ∧ Z.R b → R0 b ∧ ¬ BX b := fun b hb => ⟨h1 b hb, fun hx => (hBX b hx).1 hb.1⟩
          obtain ⟨its0, e1, e2, e3, e4⟩ := Aon (B1 := fun b => R0 b ∧ ¬ BX b) hr hb1 (shL c.ps) ls x is ⟨[], [], []⟩ [] (Fa L1 (shL c.ps) ls) hx his (fun i hi z E v cc hLi => by
           rcases h2 with h2 | h2
           ·rw [h2] at hi; cases hi
           ·have hni : It i is = false := by
             have := hdis
             simp only [Bool.not_eq_false', List.all_eq_true, Bool.not_eq_true'] at this
             exact this i hi
            have hLi2 := (hget i hni).trans hLi
            obtain ⟨o, g1, g2⟩ := Mobs.Azw hY (hr2.Dn hLi2)
            exact (Go.Lv.Hn g1).step (fun b hb => ⟨h2 b, fun hx => g2 b hb (.inr hx)⟩) (fun _ _ => rfl)) rfl rfl
          obtain ⟨ps, h5, h6⟩ := Aht hls hpv e3
          have hit0 : argI c.ps x = its0 := by unfold argI; rw [e1]; rfl
          have hcall := hcon.ok R0 (fun b => ¬ BX b) w _ _ ps x y h5 (by rw [hit0]; exact e2) (by rw [hit0]; exact e4) hL0 h6 (fun p hp => by
           obtain ⟨hA, T1, fr, hh⟩ := hr.Awd (hT.2 ▸ hp)
           exact ⟨Ft hh, fun hx => (hBX _ hx).1 hA.1, T1, fr, hh⟩) hy
          have hxe' := hxe hcon.ent
          rw [List.append_nil] at hxe'
          refine WL.e (Xh hd) hxe' hcall ?_
          rintro e w' ⟨us, rfl, hk, A2, LL, hA2, hm3, hres⟩
          refine ⟨_, rfl, WL.nil ?_⟩
          have hnew : ∀ b, A2 b → Z.R b := fun b hb => by
           rcases (hA2 b hb).1 with h7 | h7
           ·exact hr.out (hBX b (Classical.not_not.1 h7)).1
           ·refine Z.new b ?_
            have h8 : Z.w0.heap.size ≤ w.heap.size := (hr.fact 1 (f := .old Z.M Z.w0) rfl).1.le
            omega
          obtain ⟨ps', its, g1, g2, g3, g4, g5⟩ := hres s2 L2 (fun b => (A1 b ∨ A2 b) ∧ Z.R b) hr2.len.symm (fun b hb => ⟨.inr hb, hnew b hb⟩) (fun hro b hb => by
           rcases hb with hb | ⟨p, hp, rfl⟩
           ·exact ⟨.inl (h3 hro b hb.1).1, (h3 hro b hb.1).2⟩
           ·exact ⟨.inl (hr.Awd (hT.2 ▸ hp)).1.1, (hr.Awd (hT.2 ▸ hp)).1.2⟩)
          have hr' := Rel.Auf hr2 hBX hY hk hA2 hm3 g4 g5
          obtain ⟨hv, hv'⟩ := Aq5 g3
          rw [g2] at h
          refine ⟨_, fun b => A1 b ∨ A2 b, L2 ++ LL, h, ?_, fun gg => ?_⟩
          ·rw [g1]; exact hr'.Cq (d := some dn) hv hv'
          ·obtain ⟨e1', e2', e3'⟩ := hsame gg
           obtain ⟨c', hc', hno, _⟩ := hG gg
           rw [hc] at hc'; cases hc'
           have his0 := Ah3 hno his
           subst his0
           have hs12 : s1 = s2 := by simpa [S.Ajy] using hs2
           have hL12 := hnil rfl
           subst hs12 hL12 e1' e2' e3'
           rw [g1]
           exact ⟨fun b hb => .inl hb, fun b hb => hk.same b (St.lt hr b hb) fun hx => (hBX b hx).1 hb, ⟨LL, rfl⟩, ⟨its, rfl⟩⟩
         cases hro' : Ak3 c with
         | true =>
          refine key (fun b => A1 b ∧ Z.R b) (fun _ h => h) (.inl ?_) (fun _ _ h => h)
          rw [hro'] at hro2
          simp only [Bool.true_and, Bool.not_eq_false'] at hro2
          exact isEmpty_nil hro2
         | false => exact key (fun _ => True) (fun _ _ => trivial) (.inr fun _ => trivial) (fun h => by rw [hro'] at h; cases h)
  ·cases h
 ·rename_i hn
  obtain ⟨hP, h⟩ := Ak h
  have hpv := EncVs.append (Ak0 hr0.mem.sl _ hP) hcaps
  obtain ⟨he, hcall⟩ := hI Z hT.2 f _ s _ r σs A L σ w _ h hr0 hpv
  refine WL.e (Xh hd) (hxe he) hcall ?_
  rintro e w' ⟨v, p, s', A', L', rfl, hk, hr', hv, hv'⟩
  refine ⟨_, rfl, WL.nil ⟨_, A', L', hk, hr'.Cq (d := some dn) hv hv', fun gg => ?_⟩⟩
  obtain ⟨c, hc, _⟩ := hG gg
  rw [hn] at hc; cases hc
end Go.Rx
set_option linter.unusedVariables false
set_option linter.unusedSimpArgs false
namespace Go.Rx
open Go Go.Lv
variable {P : Program} {B B' : Reg} {w w' : World} {L L' : List MD} {s : S} {σs : List Env} {σ : Env} {Z : Fix} {A A' : Reg} {n : Nat} {ops : Array Oper}
variable {R : Type} {k : S → Option R} {r : R} {d : Option Nat} {ty : TypeId} {pos : String} {after : Array Edge} {T : Tab} {inl : Inl R}
theorem Rf {l : List Oper} {K K' : Env → World → Prop} (h : WL P n ops l K σ w) (hk : ∀ σ w, K σ w → K' σ w) : WL P n ops l K' σ w := by
 have := WL.cut (rest := []) K l h (fun σ w h => WL.nil (hk σ w h))
 rwa [List.append_nil] at this
theorem Aou {cs : Array Value} {v : PV} (h : Afj P ty (.agg cs) = some v) (hA : v.isA = true) : v.isV = true ∧ Cb B w L v (.agg cs) := by
 have h1 := Aff (B := B) (w := w) (L := L) h
 have h2 : Df B w L v (.agg cs) := by
  unfold Df; rw [hA]
  exact ⟨cs.toList, by simp, h1⟩
 exact Ea h2
theorem Apc {a : Option R} : ∀ {l : List (Option R)}, both a l = some r → a = some r ∧ ∀ b ∈ l, b = some r
 | [], h => ⟨h, by simp⟩
 | b :: l, h => by
  unfold both at h
  split at h
  ·rename_i hab
   obtain ⟨h1, h2⟩ := Apc h
   exact ⟨h1, fun c hc => by
    rcases List.mem_cons.1 hc with rfl | hc
    ·exact hab ▸ h1
    ·exact h2 c hc⟩
  ·cases h
theorem Axx {α : Type} {l : List α} {a b : Option R} (h : Am6 l a b = some r) : b = some r ∧ (l = [] → a = some r) := by
 cases l with
 | nil =>
  obtain ⟨h1, h2⟩ := Apc h
  exact ⟨h2 _ (.head _), fun _ => h1⟩
 | cons x l => exact ⟨h, fun e => by cases e⟩
theorem Ah6 {o : BinOp} {t e t' : TypeId} {x y : Operand} {q : Bool} {p : Option Addr} {l c : Nat} (h : Amn o = some q) (ht : P.underlying t = some (.slice e)) (hx : ev σ x = .slice p l c) (hy : ev σ y = .slice none 0 0) :
  XO P σ w (.binOp o t x y t') (.bool (p.isNone == q)) := by
 cases o <;> simp only [Amn, Option.some.injEq, reduceCtorEq] at h <;> subst h
 ·have := X.bin (w := w) (t' := t') hx hy (Bin.Axr ht p l c)
  simpa using this
 ·have := X.bin (w := w) (t' := t') hx hy (Bin.Awx ht p l c)
  cases p <;> simpa using this
theorem elem_nil {B : Reg} {e : ET} {l : List e.T} (hz : Nat.ble 1 e.size = true) (h : Az (Aj B w e) l []) : l = [] := by
 have h1 := Az.len (fun x c h => Aj.len h) h
 have h2 : 1 ≤ e.size := by simpa using hz
 cases l with
 | nil => rfl
 | cons a l =>
  simp only [List.length_cons, List.length_nil] at h1
  have : 0 < (l.length + 1) * e.size := Nat.mul_pos (by omega) (by omega)
  omega
theorem Au2 {o : BinOp} {t t' : TypeId} {x y : Operand} {a : PV} {dn : Nat} {G : Prop} (hr : Rel Z s σs A L σ w) (hd : Dx n ⟨some dn, .binOp o t x y t', ty, pos, after, none⟩ = true) (hx : Cd s.sl x = a) (hy : Cd s.sl y = .nils)
  (h : Au0 P s dn o t a k = some r) : Kh P n ops ⟨some dn, .binOp o t x y t', ty, pos, after, none⟩ Z s σs k r G A L σ w := by
 have hm := hr.mem
 have hy' := Ln (Bl hm.sl hy rfl)
 unfold Au0 at h
 split at h
 ·rename_i q e hq ht
  have main : ∀ {α : Type} {l : List α} {p : Option Addr} {len c : Nat}, ev σ x = .slice p len c → (p = none → l = []) → Am6 l (k (s.set dn (.b q))) (k (s.set dn (.b (!q)))) = some r → Kh P n ops ⟨some dn, .binOp o t x y t', ty, pos, after, none⟩ Z s σs k r G A L σ w := by
   intro α l p len c hv hp h
   obtain ⟨h1, h2⟩ := Axx h
   cases hn : p.isNone with
   | true =>
    have hk := h2 (hp (by simpa using hn))
    have hxo := Ah6 (w := w) (t' := t') hq ht hv hy'
    rw [hn] at hxo
    have hb : (true == q) = q := by cases q <;> rfl
    rw [hb] at hxo
    exact Br (p := .b q) hr hd hxo rfl rfl hk
   | false =>
    have hxo := Ah6 (w := w) (t' := t') hq ht hv hy'
    rw [hn] at hxo
    have hb : (false == q) = !q := by cases q <;> rfl
    rw [hb] at hxo
    exact Br (p := .b (!q)) hr hd hxo rfl rfl h1
  split at h
  ·have hv := Ln (Bl hm.sl hx rfl)
   have hxo := Ah6 (w := w) (t' := t') hq ht hv hy'
   have hb : ((none : Option Addr).isNone == q) = q := by cases q <;> rfl
   rw [hb] at hxo
   exact Br (p := .b q) hr hd hxo rfl rfl h
  ·split at h
   ·obtain ⟨hz, h⟩ := Ak h
    obtain ⟨c0, h1, h2⟩ := Kb (Bl hm.sl hx rfl)
    have h1' := h1
    obtain ⟨p, len, cap, hv, h3, h4, h5, h6⟩ := h1
    refine main hv (fun hp => ?_) h
    subst hp
    have : c0 = [] := Go.Lv.Rd.Aqp (by rw [← hv]; exact h1')
    subst this
    have := h5 rfl
    exact elem_nil hz h2
   ·cases h
  ·rename_i i
   split at h
   ·rename_i E e' l hi
    obtain ⟨hz, h⟩ := Ak h
    obtain ⟨v, cs, h1, h2⟩ := hm.arr hi
    obtain ⟨z, E', c0, h3⟩ := Ms (Bl hm.sl hx rfl)
    rw [h1] at h3
    cases h3
    have hrd := hr.Hn h1
    have h1' := hrd
    obtain ⟨p, len, cap, hv, h4, h5, h6, h7⟩ := hrd
    refine main hv (fun hp => ?_) h
    subst hp
    have : cs = [] := Go.Lv.Rd.Aqp (by rw [← hv]; exact h1')
    subst this
    exact elem_nil hz h2
   ·cases h
  ·cases h
 ·cases h
theorem Asz {i b off : Nat} {md : MD} {ns : List Value} {F : List Fact} (hr : St A w F (L.map MD.Dn)) (h : L[i]? = some md) (hb : md.base = some b) (h1 : ns.all (·.oneCell') = true) (hle : off + ns.length ≤ md.cells.length) (hz : 0 < ns.length) :
  ∃ w' md', (storeCells ⟨b, off, none⟩ ns).run P w = .ok () w' ∧ St A w' F ((L.map MD.Dn).set i md'.Dn) ∧ Iz off ns md md' := by
 cases md with
 | dead => cases hb
 | box b' cells T =>
  cases hb
  have hL : (L.map MD.Dn)[i]? = some (Mob.box b cells T) := Apv h
  have hr' := Cs (P := P) b T (0, 0) ns off 0 cells w (hr.box hL) (by simpa [MD.cells] using hle) (.inr (.inr (Nat.le_refl _))) (fun v hv => by simpa using List.all_eq_true.1 h1 v hv)
  simp only [Nat.add_zero] at hr'
  exact ⟨_, .box b (Am cells off ns) T, hr', hr.Awf hL, rfl⟩
 | own z' E u cs =>
  obtain ⟨b', m, c, hu, hs'⟩ := St.Apl hr (Apv h) (by simp [MD.cells] at hle; omega)
  subst hu
  cases hb
  have hlen : i < (L.map MD.Dn).length := by simpa using (List.getElem?_eq_some_iff.1 h).1
  have hL : ((L.map MD.Dn).set i (.at_ b z' E m c cs))[i]? = some (.at_ b z' E m c cs) := by rw [List.getElem?_set_self hlen]
  have hle' : off + ns.length ≤ cs.length := hle
  have hcore : ∃ w', (storeCells ⟨b, off, none⟩ ns).run P w = .ok () w' ∧ St A w' F (((L.map MD.Dn).set i (.at_ b z' E m c cs)).set i (.at_ b z' E m c (Am cs off ns))) := by
   obtain ⟨o, ho, _, _⟩ := (hs'.front hL).mobs
   obtain ⟨rfl, ho⟩ := ho
   have ho' := ho
   obtain ⟨_, len, cap, e, h3, h4, h5, h5', h6⟩ := ho
   cases e
   obtain ⟨arr, fr, e, hbb, hsz', hfz, hcells⟩ := h6 b rfl
   have hcl : cs.length ≤ arr.size := by rw [h3, hsz']; exact Nat.mul_le_mul_right _ h4
   have hr' := Cs (P := P) b E fr ns off 0 arr.toList w (by simpa using hbb) (by simp; omega) (by simp; rcases hfz with h | h; exact .inr (.inr (Nat.le_of_eq h.symm)); exact .inr (.inl h)) (fun v hv => by simpa using List.all_eq_true.1 h1 v hv)
   simp only [Nat.add_zero] at hr'
   have hbl := Ft hbb
   have hcs' : (Am cs off ns).length = cs.length := Cg (by omega)
   have hget : ∀ i, i < m * z' → (Am arr.toList off ns)[i]? = (Am cs off ns)[i]? := fun i hi => by
    have hmin1 : min off arr.toList.length = off := by simp; omega
    have hmin2 : min off cs.length = off := by omega
    simp only [Am, List.getElem?_append, List.length_take, hmin1, hmin2, List.getElem?_take, List.getElem?_drop]
    by_cases g1 : i < off
    ·rw [if_pos g1, if_pos g1, if_pos g1, if_pos g1]; simpa using hcells i hi
    ·rw [if_neg g1, if_neg g1]
     by_cases g2 : i - off < ns.length
     ·rw [if_pos g2, if_pos g2]
     ·rw [if_neg g2, if_neg g2]
      have e1 : off + ns.length + (i - off - ns.length) = i := by omega
      rw [e1]; simpa using hcells i hi
   refine ⟨_, hr', hs'.Acj hL (b := b) ⟨rfl, ho'⟩ ⟨rfl, _, m, c, rfl, by rw [hcs', h3], h4, h5, h5', fun b' hb' => ?_⟩ ?_⟩
   ·cases hb'
    refine ⟨(Am arr.toList off ns).toArray, fr, rfl, by simp [Ch, hbl], ?_, ?_, fun i hi => ?_⟩
    ·simp only [List.size_toArray]; rw [Cg (by simp; omega)]; simpa using hsz'
    ·simp only [List.size_toArray]; rw [Cg (by simp; omega)]; simpa using hfz
    ·simpa using hget i hi
   ·rintro ⟨q, hq, q1, q2⟩
    exact ⟨q, hq, q1, q2, hq.1⟩
  obtain ⟨w', g1, g2⟩ := hcore
  have hs3 := g2.Az9 (i := i) (b := b) (s := z') (m := m) (c := c) (E := E) (cs := Am cs off ns) (by rw [List.getElem?_set_self (by simpa using hlen)])
  rw [List.set_set, List.set_set] at hs3
  exact ⟨w', .own z' E (.slice (some ⟨b, 0, none⟩) m c) (Am cs off ns), g1, hs3, rfl⟩
structure SrcW (P : Program) (w : World) (vy : Value) (z ly : Nat) (ys : List Value) : Prop where
 len : (Builtin.lenOf vy).run P w = .ok ly w
 first : ∀ m, m ≤ ly → (Builtin.firstCells z m vy).run P w = .ok (ys.take (m * z)).toArray w
theorem SrcW.rd {vy : Value} {z ly : Nat} {ys : List Value} (h : Rd (fun _ => True) w z vy ys) (hl : ys.length = ly * z) (hz : 0 < z) : SrcW P w vy z ly ys := by
 obtain ⟨p, len, cap, rfl, h2, h3, h4, h5⟩ := h
 have he : len = ly := Nat.eq_of_mul_eq_mul_right hz (h2.symm.trans hl)
 subst he
 refine ⟨rfl, fun m hm => ?_⟩
 cases p with
 | none =>
  have : m = 0 := by have := h4 rfl; omega
  subst this
  simp [Builtin.firstCells]
 | some a =>
  have hlen : (ys.take (m * z)).length = m * z := by
   rw [List.length_take, h2]
   have := Nat.mul_le_mul_right z hm
   omega
  simp only [Builtin.firstCells]
  by_cases hc : 0 < cap
  ·obtain ⟨b, off, arr, T, fr, e1, _, e2, _, e4⟩ := h5 hc
   cases e1
   have := Er (P := P) (w := w) (b := b) (off := off) (ys.take (m * z)) (fun i hi => by
    rw [hlen] at hi
    have h6 : i < len * z := Nat.lt_of_lt_of_le hi (Nat.mul_le_mul_right z hm)
    rw [cell_of e2, e4 i h6, List.getElem?_take, if_pos hi])
   rw [hlen] at this
   exact this
  ·have : m = 0 := by omega
   subst this
   simp [loadCells, loadCellsFrom]
theorem SrcW.str {l : List UInt8} : SrcW P w (sv l) 1 l.length (Oo (k := .u8) l) := by
 refine ⟨by simp [Builtin.lenOf, ByteArray.size], fun m hm => ?_⟩
 simp only [Builtin.firstCells, Afi, Sem.run_pure]
 congr 1
 simp [Oo, List.map_take]
 rfl
theorem Ap1 {e : ET} {t2 : TypeId} {y : Operand} {m : List e.T} (hr : Rel Z s σs A L σ w) (hz : 0 < e.size) (h : Avv P s e t2 y = some m) : ∃ ys, Az (Aj (fun b => A b ∧ Z.R b) w e) m ys ∧ SrcW P w (ev σ y) e.size m.length ys := by
 have hm := hr.mem
 have plain : elems s e (Cd s.sl y) = some m → ∃ ys, Az (Aj (fun b => A b ∧ Z.R b) w e) m ys ∧ SrcW P w (ev σ y) e.size m.length ys := by
  intro h
  have hV : (Cd s.sl y).isV = true := by
   cases hq : (Cd s.sl y).isV with
   | true => rfl
   | false => rcases Kc hq with h' | h' | ⟨_, _, _, h'⟩ <;> rw [h'] at h <;> cases h
  obtain ⟨c0, h1, h2⟩ := Ahs hm h (Gv hm.sl y hV)
  have hrd : Rd (fun _ => True) w e.size (ev σ y) c0 := by
   rcases h2 with h2 | ⟨j, E', u, cs', _, h2, hpart⟩
   ·exact h2.step (fun _ _ => trivial) (fun _ _ => rfl)
   ·exact hpart _ _ (hr.Hn h2)
  exact ⟨c0, h1, .rd hrd (h1.len fun x c h => Aj.len h) hz⟩
 unfold Avv at h
 split at h
 ·split at h
  ·rename_i m0 hy
   unfold Aci at h
   split at h
   ·rename_i he
    cases he
    cases h
    rw [Hh hm.sl hy]
    exact ⟨Oo m0, Asl.Wu, .str⟩
   ·cases h
  ·cases h
 ·unfold Avg at h
  split at h
  ·rename_i i p e1 lo n' hy
   split at h
   ·rename_i T v hi
    split at h
    ·rename_i a x hg
     split at h
     ·rename_i q a l
      obtain ⟨hb, h⟩ := Ak h
      simp only [Bool.and_eq_true, decide_eq_true_eq] at hb
      obtain ⟨⟨k1, k2, k3⟩, rfl⟩ := hb
      split at h
      ·rename_i ha
       subst ha
       cases h
       obtain ⟨md, v1, h3, h4, g1, g2, ⟨pt, cap, g3, g4, g5, g6⟩, _⟩ := Bl hm.sl hy rfl
       have h6 : ev σ y = v1 := by simpa using h4
       obtain ⟨b, cells, h7, h8⟩ := hm.box hi
       rw [h7] at h3; cases h3
       obtain ⟨c1, c2, c3, he, h9, h10, h11⟩ := Wv hg h8
       have hlen2 := h11.len fun x c h => Aj.len h
       obtain ⟨lo', rfl⟩ := Int.eq_ofNat_of_zero_le k1
       obtain ⟨n1, rfl⟩ := Int.eq_ofNat_of_zero_le k2
       simp only [Int.toNat_natCast] at g3 g4 g6
       have hq : lo' + n1 ≤ l.length := by rw [h10]; omega
       have hsub : (Aaf l lo' n1).length = n1 := by simp [Aaf]; omega
       have e5 : lo' * a.size + n1 * a.size ≤ l.length * a.size := by rw [← Nat.add_mul]; exact Nat.mul_le_mul_right _ hq
       refine ⟨(c2.drop (lo' * a.size)).take (n1 * a.size), Az.take (fun x c h => Aj.len h) _ (Az.drop (fun x c h => Aj.len h) _ h11), ?_, fun m hm' => ?_⟩
       ·rw [h6, g3, hsub]; rfl
       ·rw [hsub] at hm'
        rw [h6, g3]
        have hml : m * a.size ≤ n1 * a.size := Nat.mul_le_mul_right _ hm'
        cases pt with
        | none =>
         have : m = 0 := by have := g5 rfl; omega
         subst this
         simp [Builtin.firstCells]
        | some ad =>
         simp only [Builtin.firstCells]
         by_cases hc : 0 < cap
         ·obtain ⟨bb, e1, e2⟩ := g6 hc
          cases e1
          cases e2
          have hlen3 : (((c2.drop (lo' * a.size)).take (n1 * a.size)).take (m * a.size)).length = m * a.size := by
           simp only [List.length_take, List.length_drop, hlen2]; omega
          have := Er (P := P) (w := w) (b := b) (off := Ag p + lo' * a.size) (((c2.drop (lo' * a.size)).take (n1 * a.size)).take (m * a.size)) (fun i hi => by
           rw [hlen3] at hi
           have hcl : Ag p + lo' * a.size + i < (MD.box b cells T).cells.length := by
            simp only [MD.cells, he, List.length_append, h9, hlen2]; omega
           rw [hr.cells h7 rfl _ hcl]
           simp only [MD.cells]
           rw [he, List.getElem?_append_right (by omega), h9, show Ag p + lo' * a.size + i - Ag p = lo' * a.size + i by omega, List.getElem?_append_left (by rw [hlen2]; omega),
            List.getElem?_take, if_pos hi, List.getElem?_take, if_pos (by omega), List.getElem?_drop])
          rw [hlen3] at this
          exact this
         ·have : m = 0 := by omega
          subst this
          simp [loadCells, loadCellsFrom]
      ·cases h
     ·cases h
    ·cases h
   ·cases h
  ·exact plain h
 ·cases h
theorem Ajp (cs : List Value) (o : Nat) : Am cs o [] = cs := by simp [Am]
theorem Aqk {t t2 E : TypeId} {vx vy : Value} {z ly nv capv off i : Nat} {pt : Option Addr} {ys : List Value} {md : MD} {F : List Fact} (ht : P.underlying t = some (.slice E)) (hsz : SizeIs P E z) (hsrc : SrcW P w vy z ly ys) (hys : ys.length = ly * z) (h1 : ys.all (·.oneCell') = true)
  (hr : St A w F (L.map MD.Dn)) (h : L[i]? = some md) (hne : md ≠ .dead) (hx : vx = .slice pt nv capv) (hcap : nv ≤ capv) (hpt : pt = none → capv = 0) (hb : 0 < capv → ∃ b, md.base = some b ∧ pt = some ⟨b, off, none⟩) (hle : off + nv * z ≤ md.cells.length) (hz : 0 < z) :
  ∃ w' md', (Builtin.copy_ #[t, t2] ty #[vx, vy]).run P w = .ok (goInt (Nat.min ly nv)) w' ∧ St A w' F ((L.map MD.Dn).set i md'.Dn) ∧ Iz off (ys.take (nv * z)) md md' := by
 subst hx
 have hmin : Nat.min ly nv ≤ ly := Nat.min_le_left _ _
 have hfirst := hsrc.first _ hmin
 have htake : ys.take (Nat.min ly nv * z) = ys.take (nv * z) := by
  rcases Nat.le_total ly nv with h' | h'
  ·rw [show Nat.min ly nv = ly from Nat.min_eq_left h', ← hys, List.take_length, List.take_of_length_le (by rw [hys]; exact Nat.mul_le_mul_right z h')]
  ·rw [show Nat.min ly nv = nv from Nat.min_eq_right h']
 rw [htake] at hfirst
 have hmul : Nat.min ly nv * z ≤ nv * z := Nat.mul_le_mul_right z (Nat.min_le_right _ _)
 have hlen : (ys.take (nv * z)).length = Nat.min ly nv * z := by
  rw [← htake, List.length_take, hys]
  have := Nat.mul_le_mul_right z hmin
  omega
 have hnone : (ys.take (nv * z)) = [] → ∃ w' md', (Builtin.copy_ #[t, t2] ty #[.slice pt nv capv, vy]).run P w = .ok (goInt (Nat.min ly nv)) w' ∧ St A w' F ((L.map MD.Dn).set i md'.Dn) ∧ Iz off (ys.take (nv * z)) md md' := by
  intro he
  refine ⟨w, md, ?_, ?_, ?_⟩
  ·rw [he] at hfirst
   cases pt <;> simp [Builtin.copy_, run_underlying ht, hsrc.len, Aq hsz, hfirst, storeCells]
  ·rw [List.getElem?_eq_some_iff] at h
   obtain ⟨hlt, h⟩ := h
   have : (L.map MD.Dn).set i md.Dn = L.map MD.Dn := by
    rw [← List.map_set, ← h, List.set_getElem_self]
   rw [this]; exact hr
  ·rw [he]
   cases md with
   | dead => exact absurd rfl hne
   | box b c T => simp only [Iz, Ajp]
   | own z' E' v c => simp only [Iz, Ajp]
 by_cases he : (ys.take (nv * z)) = []
 ·exact hnone he
 ·have hpos : 0 < (ys.take (nv * z)).length := List.length_pos_iff.2 he
  have hm0 : 0 < Nat.min ly nv := by
   rcases Nat.eq_zero_or_pos (Nat.min ly nv) with h' | h'
   ·rw [hlen, h'] at hpos; simp at hpos
   ·exact h'
  have hnv : 0 < nv := Nat.lt_of_lt_of_le hm0 (Nat.min_le_right _ _)
  obtain ⟨b, e1, e2⟩ := hb (by omega)
  subst e2
  obtain ⟨w', md', g1, g2, g3⟩ := Asz (P := P) (off := off) hr h e1 (ns := ys.take (nv * z)) (List.all_eq_true.2 fun v hv => List.all_eq_true.1 h1 v (List.mem_of_mem_take hv)) (by rw [hlen]; omega) hpos
  refine ⟨w', md', ?_, g2, g3⟩
  simp [Builtin.copy_, run_underlying ht, hsrc.len, Aq hsz, hfirst, g1]
theorem Aqe (nv k : Nat) : Adv (nv : Int) k = ((Nat.min k nv : Nat) : Int) := by
 unfold Adv
 rcases Nat.lt_or_ge k nv with h | h
 ·rw [if_pos (by omega), show Nat.min k nv = k from Nat.min_eq_left (by omega)]
 ·rw [if_neg (by omega), show Nat.min k nv = nv from Nat.min_eq_right h]
theorem Al5 {B : Reg} {e : ET} {l m : List e.T} {cs ys : List Value} {lo nv : Nat} (hl : Az (Aj B w e) l cs) (hm : Az (Aj B w e) m ys) : Az (Aj B w e) (Ij l lo nv m) (Am cs (lo * e.size) (ys.take (nv * e.size))) := by
 have h1 := Az.take (fun x c h => Aj.len h) nv hm
 have h2 := h1.len fun x c h => Aj.len h
 have h3 := Az.take (fun x c h => Aj.len h) lo hl
 have h4 := Az.drop (fun x c h => Aj.len h) (lo + (m.take nv).length) hl
 unfold Ij Am
 simp only [Int.toNat_natCast]
 refine Az.append h3 (Az.append h1 ?_)
 rw [h2, ← Nat.add_mul]
 exact h4
theorem Av6 {α : Type} (l m : List α) : Amv l m = Ij l ((0 : Nat) : Int) ((l.length : Nat) : Int) m := by
 unfold Amv Ij
 simp only [Int.toNat_natCast, List.take_zero, List.nil_append, Nat.zero_add, List.length_take]
 congr 1
 rcases Nat.le_total m.length l.length with h | h
 ·rw [Nat.min_eq_right h]
 ·rw [Nat.min_eq_left h, List.drop_of_length_le (Nat.le_refl _), List.drop_of_length_le h]
theorem Aq3 {t t2 E E' : TypeId} {x y : Operand} {e : ET} {l m : List e.T} {ys cs : List Value} {u : Value} {lo nv capv i : Nat} {pt : Option Addr} {ow : Option Nat} (hr : Rel Z s σs A L σ w) (hd : Dx n ⟨ow, .call ⟨.builtin .copy, #[x, y], #[t, t2]⟩, ty, pos, after, none⟩ = true)
  (ht : P.underlying t = some (.slice E)) (hsz : SizeIs P E e.size) (hz : 0 < e.size) (hit : Bb s.it i = .arr E' e l) (hL : L[i]? = some (.own e.size E' u cs)) (hl : Az (Aj (fun b => A b ∧ Z.R b) w e) l cs) (hm : Az (Aj (fun b => A b ∧ Z.R b) w e) m ys) (hsrc : SrcW P w (ev σ y) e.size m.length ys)
  (hx : ev σ x = .slice pt nv capv) (hcap : nv ≤ capv) (hpt : pt = none → capv = 0) (hb : 0 < capv → ∃ b, (MD.own e.size E' u cs).base = some b ∧ pt = some ⟨b, lo * e.size, none⟩) (hle : lo + nv ≤ l.length)
  (hk : k ((s.Jl i (.arr E' e (Ij l lo nv m))).Cq ow (.i .i64 (Adv (nv : Int) m.length))) = some r) : Kh P n ops ⟨ow, .call ⟨.builtin .copy, #[x, y], #[t, t2]⟩, ty, pos, after, none⟩ Z s σs k r False A L σ w := by
 have hcl := hl.len fun x c h => Aj.len h
 have hyl := hm.len fun x c h => Aj.len h
 have hF := St.Age (f := Alg Z.R L (.arr E' e (Ij l lo nv m)) (Am cs (lo * e.size) (ys.take (nv * e.size)))) hr (Al5 hl hm)
 obtain ⟨w', md', g1, g2, g3⟩ := Aqk (P := P) (ty := ty) (t2 := t2) (off := lo * e.size) ht hsz hsrc hyl hm.Apd hF hL (by intro h; cases h) rfl hcap hpt hb (by
  show lo * e.size + nv * e.size ≤ cs.length
  rw [hcl, ← Nat.add_mul]; exact Nat.mul_le_mul_right _ hle) hz
 simp only [Iz] at g3
 subst g3
 have key := LeL.own (cs' := Am cs (lo * e.size) (ys.take (nv * e.size))) hL
 have hr2 := Rel.change (a := .arr E' e (Ij l lo nv m)) g2.Aka hL key ⟨rfl, rfl, g2.fact 0 rfl⟩
 refine WL.Asd (v := goInt (Nat.min m.length nv)) rfl hd ?_ (WL.nil ⟨_, A, _, hk, hr2.Cq rfl ?_, fun h => h.elim⟩)
 ·simp [execOp, resolve, invoke, builtin, hx, g1]
 ·rw [Aqe]; rfl
theorem Atb {t t2 : TypeId} {x y : Operand} {ow : Option Nat} (hr : Rel Z s σs A L σ w) (hd : Dx n ⟨ow, .call ⟨.builtin .copy, #[x, y], #[t, t2]⟩, ty, pos, after, none⟩ = true)
  (h : Ao0 P s ow x y t t2 k = some r) : Kh P n ops ⟨ow, .call ⟨.builtin .copy, #[x, y], #[t, t2]⟩, ty, pos, after, none⟩ Z s σs k r False A L σ w := by
 have hmm := hr.mem
 unfold Ao0 at h
 split at h
 ·cases h
 ·rename_i E hE
  have ht := Ac3 hE
  split at h
  ·cases h
  ·rename_i inf hinf
   split at h
   ·rename_i i hx
    split at h
    ·rename_i E' e l hit
     obtain ⟨hb, h⟩ := Ak h
     simp only [Bool.and_eq_true] at hb
     have hz : 0 < e.size := by have := Nat.le_of_ble_eq_true hb.2; omega
     split at h
     ·rename_i m hsrc
      obtain ⟨ys, h1, h2⟩ := Ap1 hr hz hsrc
      obtain ⟨u, cs, h3, h4⟩ := hmm.arr hit
      obtain ⟨z', E2, c', h5⟩ := Ms (Bl hmm.sl hx rfl)
      rw [h3] at h5
      cases h5
      obtain ⟨q, len, cap, g1, g2, g3, g4, g5⟩ := hr.Ayw h3
      have hl : len = l.length := Nat.eq_of_mul_eq_mul_right hz (g2.symm.trans (h4.len fun x c h => Aj.len h))
      rw [Av6] at h
      exact Aq3 (lo := 0) (nv := l.length) (ys := ys) hr hd ht (Cc hinf hb.1) hz hit h3 h4 h1 h2 (by rw [g1, hl]) (by omega) g4 (fun hc => by obtain ⟨b, e1, e2⟩ := g5 hc; exact ⟨b, e2, by rw [e1]; simp⟩) (by omega) h
     ·cases h
    ·cases h
   ·rename_i i p e1 lo n' hx
    split at h
    ·rename_i E' e l hit
     obtain ⟨hb, h⟩ := Ak h
     simp only [Bool.and_eq_true, decide_eq_true_eq] at hb
     obtain ⟨⟨hb1, hb2⟩, rfl⟩ := hb
     have hz : 0 < e1.size := by have := Nat.le_of_ble_eq_true hb2; omega
     split at h
     ·rename_i m hsrc
      obtain ⟨ys, h1, h2⟩ := Ap1 hr hz hsrc
      obtain ⟨u, cs, h3, h4⟩ := hmm.arr hit
      obtain ⟨md, v1, h5, h6, k1, k2, ⟨pt, cap, k3, k4, k5, k6⟩, k7, _⟩ := Bl hmm.sl hx rfl
      rw [h3] at h5; cases h5
      have h7 : ev σ x = v1 := by simpa using h6
      obtain ⟨lo', rfl⟩ := Int.eq_ofNat_of_zero_le k1
      obtain ⟨n1, rfl⟩ := Int.eq_ofNat_of_zero_le k2
      simp only [Int.toNat_natCast] at k3 k4 k6 k7
      obtain ⟨s', E2, q, len, cap0, c0, e1', rfl, e3, _⟩ := k7 trivial
      cases e1'
      obtain ⟨q', len', cap', g1, g2, _⟩ := hr.Ayw h3
      cases g1
      have hl : len = l.length := Nat.eq_of_mul_eq_mul_right hz (g2.symm.trans (h4.len fun x c h => Aj.len h))
      exact Aq3 (lo := lo') (nv := n1) (ys := ys) hr hd ht (Cc hinf hb1) hz hit h3 h4 h1 h2 (h7.trans k3) k4 k5 (fun hc => by obtain ⟨b, e4, e5⟩ := k6 hc; exact ⟨b, e4, by rw [e5]; simp [Ag]⟩) (by omega) h
     ·cases h
    ·cases h
   ·rename_i i p e1 lo n' hx
    split at h
    ·rename_i T v hit
     split at h
     ·rename_i a0 x0 hg
      split at h
      ·rename_i q e l
       obtain ⟨hb, h⟩ := Ak h
       simp only [Bool.and_eq_true, decide_eq_true_eq] at hb
       obtain ⟨⟨⟨hb1, hb2⟩, rfl⟩, k1, k2, k3⟩ := hb
       have hz : 0 < e1.size := by have := Nat.le_of_ble_eq_true hb2; omega
       split at h
       ·rename_i m hsrc
        obtain ⟨ys, h1, h2⟩ := Ap1 hr hz hsrc
        obtain ⟨md, v1, h5, h6, _, _, ⟨pt, cap, g3, g4, g5, g6⟩, _⟩ := Bl hmm.sl hx rfl
        have h7 : ev σ x = v1 := by simpa using h6
        obtain ⟨b, cells, h8, h9⟩ := hmm.box hit
        rw [h8] at h5; cases h5
        obtain ⟨c1, c2, c3, he, h10, h11, h12⟩ := Wv hg h9
        have hlen2 := h12.len fun x c h => Aj.len h
        have hyl := h1.len fun x c h => Aj.len h
        obtain ⟨lo', rfl⟩ := Int.eq_ofNat_of_zero_le k1
        obtain ⟨n1, rfl⟩ := Int.eq_ofNat_of_zero_le k2
        simp only [Int.toNat_natCast] at g3 g4 g6
        have hq : lo' + n1 ≤ l.length := by rw [h11]; omega
        have e5 : lo' * e1.size + n1 * e1.size ≤ l.length * e1.size := by rw [← Nat.add_mul]; exact Nat.mul_le_mul_right _ hq
        have hk1 := Az.take (fun x c h => Aj.len h) n1 h1
        have hk2 := hk1.len fun x c h => Aj.len h
        have hk3 : (ys.take (n1 * e1.size)).length ≤ n1 * e1.size := by rw [List.length_take]; omega
        have hcp := Al5 (lo := lo') (nv := n1) h12 h1
        have hspl : (Am c2 (lo' * e1.size) (ys.take (n1 * e1.size))).length = c2.length := Cg (by rw [hlen2]; omega)
        have hvec : EncC (fun b => A b ∧ Z.R b) w L (.val (.vec q e1) (Ij l lo' n1 m)) (Am c2 (lo' * e1.size) (ys.take (n1 * e1.size))) := by
         refine ⟨?_, hcp⟩
         have := hcp.len fun x c h => Aj.len h
         rw [hspl, hlen2] at this
         rw [← h11]; exact (Nat.eq_of_mul_eq_mul_right hz this).symm
        obtain ⟨v', hk, _, hv'⟩ := Ahn hvec h h9
        have hcells : Am cells (Ag p) (Am c2 (lo' * e1.size) (ys.take (n1 * e1.size))) = Am cells (Ag p + lo' * e1.size) (ys.take (n1 * e1.size)) := by
         rw [he, Uy h10 _ (by rw [hlen2]; omega), ← h10, Xj hspl]
        rw [hcells] at hv'
        have hF := St.Age (f := Alg Z.R L (.box T v') (Am cells (Ag p + lo' * e1.size) (ys.take (n1 * e1.size)))) hr hv'
        obtain ⟨w', md', g1, g2, g3'⟩ := Aqk (P := P) (ty := ty) (t2 := t2) (off := Ag p + lo' * e1.size) ht (Cc hinf hb1) h2 hyl h1.Apd hF h8 (by intro h; cases h) rfl g4 g5 (fun hc => by obtain ⟨b, e4, e5⟩ := g6 hc; exact ⟨b, e4, e5⟩) (by
         show Ag p + lo' * e1.size + n1 * e1.size ≤ cells.length
         rw [he]; simp only [List.length_append, h10, hlen2]; omega) hz
        simp only [Iz] at g3'
        subst g3'
        have key := LeL.box (cs' := Am cells (Ag p + lo' * e1.size) (ys.take (n1 * e1.size))) h8
        have hr2 := Rel.change (a := .box T v') g2.Aka h8 key ⟨rfl, EncC.step (fun _ h => h) (fun _ _ => rfl) key (g2.fact 0 rfl)⟩
        refine WL.Asd (v := goInt (Nat.min m.length n1)) rfl hd ?_ (WL.nil ⟨_, A, _, hk, hr2.Cq rfl ?_, fun h => h.elim⟩)
        ·rw [← g3, ← h7] at g1
         simp [execOp, resolve, invoke, builtin, g1]
        ·rw [Aqe]; rfl
       ·cases h
      ·cases h
     ·cases h
    ·cases h
   ·cases h
theorem Ali {g : Nat} {cs : List Value} : ∀ {l : List (Nat × List Value)}, Axo l g = some cs → (g, cs) ∈ l
 | [], h => by cases h
 | (q, c) :: r, h => by
  simp only [Axo] at h
  cases hb : Nat.beq q g with
  | true =>
   rw [hb] at h
   have := Be hb
   subst this
   cases h
   exact .head _
  | false => rw [hb] at h; exact .tail _ (Ali h)
theorem Asy {g : Nat} {t : TypeId} {v : PV} (hT : Ag9 P T Z) (hr : Rel Z s σs A L σ w) (h : T.glv P g t = some v) : ∃ cs T1 fr, w.heap[g]? = some (.cells cs.toArray T1 fr) ∧ (A g ∧ Z.R g) ∧ EncC (fun b => A b ∧ Z.R b) w L v cs := by
 unfold Tab.glv at h
 split at h
 ·rename_i cs hg
  split at h
  ·rename_i v' hp
   cases h
   obtain ⟨h1, T1, fr, h2⟩ := hr.Awd (p := (g, cs)) (by rw [hT.2]; exact Ali hg)
   obtain ⟨c, e1, h3⟩ := Wi (B := fun b => A b ∧ Z.R b) (w := w) (L := L) Q hp
   rw [List.append_nil] at e1
   subst e1
   exact ⟨_, T1, fr, h2, h1, h3⟩
  ·cases h
 ·cases h
theorem Apa {o : Op} {g dn : Nat} {G : Prop} (hT : Ag9 P T Z) (hr : Rel Z s σs A L σ w) (hd : Dx n ⟨some dn, o, ty, pos, after, none⟩ = true)
  (ho : (∃ t, o = .load t (.global g)) ∨ (∃ t ix, o = .indexAddr t (.global g) ix) ∨ (∃ t lo hi, o = .slice t (.global g) lo hi none)) (h : Ae9 P T s dn g o k = some r) :
  Kh P n ops ⟨some dn, o, ty, pos, after, none⟩ Z s σs k r G A L σ w := by
 have hm := hr.mem
 rcases ho with ⟨t, rfl⟩ | ⟨t, ix, rfl⟩ | ⟨t, lo, hi, rfl⟩
 ·simp only [Ae9] at h
  split at h
  ·rename_i v hv
   obtain ⟨hb, hk⟩ := Ak h
   obtain ⟨cs, T1, fr, h1, h2, h3⟩ := Asy hT hr hv
   obtain ⟨val, h7, h8⟩ := Anf (P := P) (σ := σ) (x := .global g) (b := g) (off := 0) (Fz hb) h3 (fun j hj => by rw [cell_of h1]; simp) rfl
   obtain ⟨hv, hv'⟩ := Ea h7
   exact Br hr hd h8 hv hv' hk
  ·cases h
 ·simp only [Ae9] at h
  split at h
  ·rename_i j m et e0 l0 hj ht hv
   obtain ⟨q, hix⟩ := Mq hj (Gv hm.sl ix (Rt hj))
   split at h
   ·rename_i inf m' e l hinf
    obtain ⟨hb, h⟩ := Ak h
    simp only [Bool.and_eq_true] at hb
    obtain ⟨y, hy, hk⟩ := bind_some h
    obtain ⟨hj0, hj1, hj2⟩ := Dh hy
    obtain ⟨cs, T1, fr, h1, h2, h3, h4⟩ := Asy hT hr hv
    obtain ⟨c1, c2, c3, he, h8, h9, _⟩ := Az.get (fun x c h => Aj.len h) h4 hj2
    have hmm := Be hb.1.1
    subst hmm
    have h10 : c2.length = e.size := h9.len
    have hp : Ao1 (fun b => A b ∧ Z.R b) w (.pointer (some ⟨g, 0 + j.toNat * e.size, none⟩)) c2 := by
     refine ⟨g, 0 + j.toNat * e.size, _, T1, fr, rfl, h2, h1, fun q hq => ?_⟩
     rw [List.getElem?_toArray, he, Nat.zero_add, List.getElem?_append_right (by omega), h8, show j.toNat * e.size + q - j.toNat * e.size = q by omega, List.getElem?_append_left hq]
    have hvr : Cb (fun b => A b ∧ Z.R b) w L (.rptr (e.pv y)) (.pointer (some ⟨g, 0 + j.toNat * e.size, none⟩)) := ⟨_, c2, rfl, hp, Tz.2 h9⟩
    exact Br hr hd (Tv (x := .global g) ht (Cc hinf hb.1.2) rfl hix (by omega) (by rw [← show l.length = m' from h3]; omega) w) rfl hvr hk
   ·cases h
  ·cases h
 ·simp only [Ae9] at h
  split at h
  ·rename_i u m et hat
   split at h
   ·rename_i e0 l0 hv
    split at h
    ·rename_i inf m' e l hinf
     obtain ⟨hb, h⟩ := Ak h
     simp only [Bool.and_eq_true] at hb
     split at h
     ·rename_i a b ha hb'
      obtain ⟨y, hy, hk⟩ := bind_some h
      obtain ⟨k1, k2, k3, k4, rfl⟩ := Ot hy
      obtain ⟨cs, T1, fr, h1, h2, h3, h4⟩ := Asy hT hr hv
      have hmm := Be hb.1.1
      subst hmm
      have hlen := h4.len fun x c h => Aj.len h
      have hz : 0 < e.size := by have := Nat.le_of_ble_eq_true hb.2; omega
      have hm3 : l.length = m' := h3
      have hxo := X.Aol (P := P) (σ := σ) (w := w) (x := .global g) (lo := lo) (hi := hi) (a := a.toNat) (b := b.toNat) (ad := ⟨g, 0, none⟩) hat (Cc hinf hb.1.2) k3 (by omega) rfl
       (by rcases Ei hm.sl ha with h | ⟨h, h'⟩; exact .inl (by rw [← k1]; exact h); exact .inr ⟨h, by omega⟩) (by rcases Ei hm.sl hb' with h | ⟨h, h'⟩; exact .inl (by rw [← k2]; exact h); exact .inr ⟨h, by omega⟩)
      have e5 : a.toNat * e.size ≤ b.toNat * e.size := Nat.mul_le_mul_right _ k3
      have e6 : b.toNat * e.size ≤ l.length * e.size := Nat.mul_le_mul_right _ k4
      have e7 : (b.toNat - a.toNat) * e.size = b.toNat * e.size - a.toNat * e.size := Nat.sub_mul _ _ _
      refine Br hr hd hxo rfl (Ac6 ⟨_, _, _, rfl, ?_, by omega, (fun h => by cases h), fun hc => ?_⟩ (Az.drop (fun x c h => Aj.len h) _ (Az.take (fun x c h => Aj.len h) _ h4))) hk
      ·rw [List.length_drop, List.length_take, hlen, e7]; omega
      ·rw [if_neg (by omega), Fh]
       refine ⟨g, 0 + a.toNat * e.size, _, T1, fr, rfl, h2, h1, ?_, fun i hi => ?_⟩
       ·simp only [List.size_toArray, hlen, hm3]
        have : (m' - a.toNat) * e.size = m' * e.size - a.toNat * e.size := Nat.sub_mul _ _ _
        have : a.toNat * e.size ≤ m' * e.size := Nat.mul_le_mul_right _ (by omega)
        omega
       ·rw [List.getElem?_toArray, Nat.zero_add, List.getElem?_drop, List.getElem?_take, if_pos (by omega)]
     ·cases h
    ·cases h
   ·cases h
  ·cases h
theorem Ayu {o : Op} {dn : Nat} (hT : Ag9 P T Z) (hI : Abg P T.gl inl) (hr : Rel Z s σs A L σ w) (hd : Dx n ⟨some dn, o, ty, pos, after, none⟩ = true) (h : op2 P T inl s dn ty o k = some r) :
  Kh P n ops ⟨some dn, o, ty, pos, after, none⟩ Z s σs k r (nbk T s ⟨some dn, o, ty, pos, after, none⟩ = true) A L σ w := by
 have hm := hr.mem
 unfold op2 at h
 split at h
 ·
  rename_i o t x y t'
  split at h
  ·rename_i a u b v hx hy
   split at h
   ·rename_i c q hc hq
    obtain ⟨_, hok, h⟩ := bind_some h
    have := Ir hok
    subst this
    obtain ⟨hv, val, hb, hvr⟩ := Akw (P := P) (w := w) (L := L) (B := fun b => A b ∧ Z.R b) (t := t) hq hc
    exact Br hr hd (X.bin (Jk hm.sl hx) (Jk hm.sl hy) hb) hv hvr h
   ·cases h
  ·rename_i u v hx hy
   split at h
   ·obtain ⟨q, hq, h⟩ := bind_some h
    exact Br (p := .val .str q) hr hd (X.Av4 (Hh hm.sl hx) (Hh hm.sl hy) hq) rfl rfl h
   ·cases h
  ·rename_i a h1 h2 hy
   exact Au2 hr hd rfl hy h
  ·cases h
 ·
  rename_i t x ix
  split at h
  ·rename_i j e0 l0 hj hx
   obtain ⟨q, hix⟩ := Mq hj (Gv hm.sl ix (Rt hj))
   split at h
   ·rename_i l ht
    obtain ⟨y, hy, h⟩ := bind_some h
    exact Br (p := .i .u8 y) hr hd (X.Avf ht (Hh hm.sl hx) hix hy) rfl rfl h
   ·rename_i m e l m' et ht
    obtain ⟨hb, h⟩ := Ak h
    obtain ⟨y, hy, h⟩ := bind_some h
    obtain ⟨hk, hkk⟩ := Ak h
    have hok := Fz hk
    have hv : Df (fun b => A b ∧ Z.R b) w L (.val (.vec m e) l) (ev σ x) := Bl hm.sl hx rfl
    obtain ⟨cs, h1, h2, h3⟩ := hv
    have hsz : (e.pv y).size = e.size := by
     obtain ⟨_, _, h5⟩ := Dh hy
     obtain ⟨_, c2, _, _, _, h6, _⟩ := Az.get (fun x c h => Aj.len h) h3 h5
     rw [← (Tz (L := L).2 h6).len, h6.len]
    have hmm := Be hb
    subst hmm
    obtain ⟨d0, hd0, ha0⟩ := hok.agg
    obtain ⟨val, h4, h5⟩ := Axe (L := L) ht (by rw [← hsz]; exact hok.size) ⟨d0, hd0, ha0⟩ (fun hA => by rw [← hsz]; exact hok.one hA) h2 h1 h3 hix hy
    obtain ⟨hv, hv'⟩ := Ea h5
    exact Br hr hd h4 hv hv' hkk
   ·cases h
  ·cases h
 ·split at h
  ·exact Apa hT hr hd (.inr (.inr ⟨_, _, _, rfl⟩)) h
  ·exact Avm hr hd h (fun g => g)
 ·split at h
  ·exact Apa hT hr hd (.inr (.inl ⟨_, _, rfl⟩)) h
  ·exact Ast hr hd h
 ·split at h
  ·exact Apa hT hr hd (.inl ⟨_, rfl⟩) h
  ·exact Axm hr hd h
 ·
  split at h
  ·rename_i v hz; exact Avp hr hd hz h
  ·cases h
 ·obtain ⟨hb, h⟩ := Ak h
  exact Ays hr hd hb h
 ·split at h
  ·rename_i v hv
   obtain ⟨hA, h⟩ := Ak h
   obtain ⟨h1, h2⟩ := Aou (B := fun b => A b ∧ Z.R b) (w := w) (L := L) hv hA
   exact Br hr hd (X.assign rfl) h1 h2 h
  ·cases h
 ·split at h
  ·rename_i v hv
   obtain ⟨hA, h⟩ := Ak h
   obtain ⟨h1, h2⟩ := Aou (B := fun b => A b ∧ Z.R b) (w := w) (L := L) hv hA
   exact Br hr hd (X.move rfl) h1 h2 h
  ·cases h
 ·exact Awe hr hd h
 ·exact Anw hr hd h (fun g => g)
 ·exact Awo hr hd h
 ·
  split at h
  ·rename_i e ha ht
   split at h
   ·rename_i l he hx
    exact Asl hr hd ha ht he hx h
   ·cases h
  ·rename_i e ha ht
   obtain ⟨hb, h1⟩ := Ak h
   clear h
   have := Be hb
   subst this
   split at h1
   ·rename_i i he hx
    split at h1
    ·rename_i E e' l hi
     split at h1
     ·rename_i y ys
      exact Awz hr hd ht he hx hi h1
     ·cases h1
    ·cases h1
   ·cases h1
  ·cases h
 ·
  rename_i as ts
  split at h
  ·rename_i x y t t2 has hts
   have h1 := Me has
   have h2 := Me hts
   subst h1 h2
   refine Rf (At2 hr hd h) ?_
   rintro σ' w' ⟨s', A', L', g1, g2, g3⟩
   exact ⟨s', A', L', g1, g2, fun g => by simp [nbk, brk] at g⟩
  ·cases h
 ·
  rename_i as ts
  split at h
  ·rename_i x y t t2 has hts
   have h1 := Me has
   have h2 := Me hts
   subst h1 h2
   refine Rf (Atb hr hd h) ?_
   rintro σ' w' ⟨s', A', L', g1, g2, g3⟩
   exact ⟨s', A', L', g1, g2, fun g => by simp [nbk, brk] at g⟩
  ·cases h
 ·
  rename_i as ts
  split at h
  ·rename_i x t has hts
   have h1 := Me has
   have h2 := Me hts
   subst h1 h2
   split at h
   ·rename_i e ht hx
    refine Br (p := .i .i64 (0 : Int)) hr hd (val := iv (0 : Int)) (fun _ _ _ _ _ => ?_) rfl rfl h
    have hv := Ln (Bl hm.sl hx rfl)
    simp [execOp, resolve, invoke, builtin, hv, Builtin.cap_, run_underlying ht, goInt]
    rfl
   ·cases h
  ·cases h
 ·
  rename_i g as ts
  split at h
  ·rename_i f caps hg
   refine Axa hT hI hr hg hd h (fun gg => ?_)
   unfold nbk at gg
   split at gg
   ·rename_i heq; cases heq
   ·rename_i heq; cases heq
   ·rename_i f' as' ts' heq
    cases heq
    cases hg
    split at gg
    ·rename_i c hc
     simp only [Bool.and_eq_true, Bool.or_eq_true, Bool.not_eq_true'] at gg
     exact ⟨c, hc, gg.1, gg.2.imp id isEmpty_nil⟩
    ·cases gg
   ·rename_i h1 h2 h3
    simp only [brk] at gg
    split at gg <;> simp_all
  ·cases h
 ·exact At1 hr hd h (fun g => g)
 ·cases h
end Go.Rx
set_option linter.unusedVariables false
set_option linter.unusedSimpArgs false
namespace Go.Rx
open Go Go.Lv
variable {P : Program} {w w' : World} {L : List MD} {s : S} {σs : List Env} {σ : Env} {Z : Fix} {A : Reg}
theorem Us {α : Type 1} {c : Bool} {x : Option α} {y : α} (h : (Bj (c ) (x ) <| none) = some y) : c = true ∧ x = some y := by cases c <;> simp_all
theorem As1 {o : Op} {b : BV} {x : b.X} (hr : Rel Z s σs A L σ w) (h : bnd P s o = some b) (hx : b.E = some x) : (b.v x).isV = true ∧ ∃ val, (∀ w', XO P σ w' o val) ∧ Cb (fun b => A b ∧ Z.R b) w L (b.v x) val := by
 have hm := hr.mem
 unfold bnd at h
 split at h
 ·
  rename_i o t x y t'
  split at h
  ·rename_i a u b v hx' hy
   split at h
   ·rename_i c q hc hq
    cases h
    have := Ir hx
    subst this
    obtain ⟨hv, val, hb, hvr⟩ := Akw (P := P) (w := w) (L := L) (B := fun b => A b ∧ Z.R b) (t := t) hq hc
    exact ⟨hv, val, fun w' => X.bin (Jk hm.sl hx') (Jk hm.sl hy) hb, hvr⟩
   ·cases h
  ·rename_i u v hx' hy
   split at h
   ·cases h
    exact ⟨rfl, _, fun w' => X.Av4 (Hh hm.sl hx') (Hh hm.sl hy) hx, rfl⟩
   ·cases h
  ·cases h
 ·
  split at h
  ·rename_i j l hj hx' ht
   cases h
   obtain ⟨q, hix⟩ := Mq hj (Gv hm.sl _ (Rt hj))
   exact ⟨rfl, _, fun w' => X.Avf ht (Hh hm.sl hx') hix hx, rfl⟩
  ·cases h
 ·
  split at h
  ·rename_i ht
   split at h
   ·rename_i l hx'
    split at h
    ·rename_i a b ha hb
     cases h
     exact ⟨rfl, _, fun w' => X.Azh ht (Hh hm.sl hx') hx (Ei hm.sl ha) (Ei hm.sl hb), rfl⟩
    ·cases h
   ·cases h
  ·rename_i et ht
   split at h
   ·rename_i e0 l0 hx'
    split at h
    ·rename_i e l
     split at h
     ·rename_i inf hinf
      obtain ⟨hb, h⟩ := Us h
      simp only [Bool.and_eq_true] at hb
      split at h
      ·rename_i a b ha hb'
       cases h
       obtain ⟨h1, h2, h3, h4, h5'⟩ := Ot hx
       obtain ⟨c0, h5, h6⟩ := Kb (Bl hm.sl hx' rfl)
       have hlen := h6.len fun x c h => Aj.len h
       obtain ⟨p', l', c', h7, h8⟩ := X.Ari (P := P) (l := a.toNat) (k := b.toNat) (m := l.length) ht (Cc hinf hb.1) (St.Avb hr h5) (j := 0) rfl hlen (Ao3 hb.2) h3 h4
       refine ⟨rfl, .slice p' l' c', fun w' => h7 σ w' _ _ _ rfl (by rcases Ei hm.sl ha with h | ⟨h, h'⟩; exact .inl (by rw [← h1]; exact h); exact .inr ⟨h, by omega⟩)
        (by rcases Ei hm.sl hb' with h | ⟨h, h'⟩; exact .inl (by rw [← h2]; exact h); exact .inr ⟨h, by rw [h']; simp [Aa]⟩), ?_⟩
       rw [h5']
       exact Ac6 (h8.fact 0 rfl) (Az.drop (fun x c h => Aj.len h) _ (Az.take (fun x c h => Aj.len h) _ h6))
      ·cases h
     ·cases h
    ·cases h
   ·cases h
  ·cases h
 ·
  split at h
  ·cases h
  ·rename_i j hj
   obtain ⟨q, hix⟩ := Mq hj (Gv hm.sl _ (Rt hj))
   split at h
   ·rename_i et ht
    split at h
    ·cases h
    ·rename_i inf hinf
     split at h
     ·rename_i e0 l0 hx'
      split at h
      ·rename_i e l
       obtain ⟨hb, h⟩ := Us h
       cases h
       simp only [Bool.and_eq_true] at hb
       obtain ⟨hj0, hj1, hj2⟩ := Dh hx
       obtain ⟨c0, h1, h2⟩ := Kb (Bl hm.sl hx' rfl)
       obtain ⟨p, len, cap, h3, h4, h5, h6, h7⟩ := h1
       have hlen := h2.len fun x c h => Aj.len h
       have hz : 0 < e.size := by have := Nat.le_of_ble_eq_true hb.2; omega
       have hl : len = l.length := Nat.eq_of_mul_eq_mul_right hz (h4.symm.trans hlen)
       subst hl
       obtain ⟨b, off, arr, T, fr, rfl, hB, hbl, hcap, hc⟩ := h7 (by omega)
       obtain ⟨c1, c2, c3, he, h8, h9, _⟩ := Az.get (fun x c h => Aj.len h) h2 hj2
       have h10 : c2.length = e.size := h9.len
       have h11 : (j.toNat + 1) * e.size ≤ l.length * e.size := Nat.mul_le_mul_right _ hj1
       rw [Nat.succ_mul] at h11
       have hp : Ao1 (fun b => A b ∧ Z.R b) w (.pointer (some ⟨b, off + j.toNat * e.size, none⟩)) c2 := by
        refine ⟨b, off + j.toNat * e.size, arr, T, fr, rfl, hB, hbl, fun q hq => ?_⟩
        rw [Nat.add_assoc, hc _ (by omega), he, List.getElem?_append_right (by omega), h8, show j.toNat * e.size + q - j.toNat * e.size = q by omega, List.getElem?_append_left hq]
       have hvr : Cb (fun b => A b ∧ Z.R b) w L (.rptr (e.pv x)) (.pointer (some ⟨b, off + j.toNat * e.size, none⟩)) := ⟨_, c2, rfl, hp, Tz.2 h9⟩
       exact ⟨rfl, _, fun w' => Gt ht (Cc hinf hb.1) h3 hix (by omega) (by omega) w', hvr⟩
      ·cases h
     ·rename_i i hx'
      split at h
      ·rename_i E e l hi
       obtain ⟨hb, h⟩ := Us h
       cases h
       simp only [Bool.and_eq_true] at hb
       obtain ⟨hj0, hj1, hj2⟩ := Dh hx
       obtain ⟨v, cs, h1, h2⟩ := hm.arr hi
       obtain ⟨z', E', c', h3⟩ := Ms (Bl hm.sl hx' rfl)
       rw [h1] at h3; cases h3
       have hlen := h2.len fun x c h => Aj.len h
       have hz : 0 < e.size := by have := Nat.le_of_ble_eq_true hb.2; omega
       have hpos : 0 < cs.length := by rw [hlen]; exact Nat.mul_pos (by omega) hz
       obtain ⟨b, len, cap, h4, h5⟩ := hr.base h1 hpos
       have hl : len = l.length := Nat.eq_of_mul_eq_mul_right hz (h5.symm.trans hlen)
       subst hl
       refine ⟨rfl, _, fun w' => Gt ht (Cc hinf hb.1) h4 hix (by omega) (by omega) w', ?_⟩
       rw [show (0 : Nat) + j.toNat * e.size = Ag [.idx j e.size] by simp [Ag, Ac8]]
       refine Mt h1 ?_
       rw [h4]; rfl
      ·cases h
     ·rename_i o i p e lo n' hx'
      obtain ⟨hb, h⟩ := Us h
      cases h
      simp only [Bool.and_eq_true] at hb
      have hj' : 0 ≤ j ∧ j < n' := of_decide_eq_true (Ir hx)
      obtain ⟨md, v1, h3, h4, k1, k2, ⟨pt, cap, k3, k4, k5, k6⟩, _⟩ := Bl hm.sl hx' rfl
      have h6 := List.cons.inj h4
      obtain ⟨b, e1, rfl⟩ := k6 (by omega)
      refine ⟨rfl, _, fun w' => Gt ht (Cc hinf hb.1) (h6.1.trans k3) hix hj'.1 (by omega) w', ?_⟩
      rw [show Ag p + lo.toNat * e.size + j.toNat * e.size = Ag (p ++ [.idx (lo + j) e.size]) by
       rw [Wy, Nat.add_assoc, ← Nat.add_mul]
       show _ = Ag p + (lo + j).toNat * e.size
       rw [Int.toNat_add k1 hj'.1]]
      exact Mt h3 e1
     ·cases h
   ·rename_i m et ht
    split at h
    ·cases h
    ·rename_i inf hinf
     split at h
     ·rename_i i p hx'
      split at h
      ·rename_i T v hi
       split at h
       ·rename_i e0 l0 hg
        split at h
        ·rename_i m' e l
         obtain ⟨hb, h⟩ := Us h
         cases h
         simp only [Bool.and_eq_true] at hb
         obtain ⟨hj0, hj1, hj2⟩ := Dh hx
         obtain ⟨md, b, h1, h2, h3⟩ := Jb (Bl hm.sl hx' rfl)
         obtain ⟨b', cells, h4, h5⟩ := hm.box hi
         rw [h4] at h1; cases h1; cases h2
         obtain ⟨c1, c2, c3, he, h6, h7, h8⟩ := Wv hg h5
         have hmm := Be hb.2
         subst hmm
         have hl : l.length = m' := h7
         refine ⟨rfl, _, fun w' => Tv ht (Cc hinf hb.1.1) h3 hix (by omega) (by omega) w', ?_⟩
         rw [show Ag p + j.toNat * e.size = Ag (p ++ [.idx j e.size]) by simp [Pw, Ag, Ac8]]
         exact Mt h4 rfl
        ·cases h
       ·cases h
      ·cases h
     ·cases h
   ·cases h
 ·cases h
end Go.Rx
set_option linter.unusedVariables false
set_option linter.unusedSimpArgs false
namespace Go.Rx
open Go Go.Lv
variable {P : Program} {B B' : Reg} {w w' : World} {L L' : List MD} {s : S} {σs : List Env} {σ : Env} {Z : Fix} {A A' : Reg} {n : Nat} {ops : Array Oper}
variable {R : Type} {k : S → Option R} {r : R} {d : Option Nat} {ty : TypeId} {pos : String} {after : Array Edge} {T : Tab} {inl : Inl R}
theorem Avn {o : Oper} (hT : Ag9 P T Z) (hI : Abg P T.gl inl) (hr : Rel Z s σs A L σ w) (hd : Dx n o = true) (h : exU P T inl o s k = some r) :
  Kh P n ops { o with guard := none } Z s σs k r (nbk T s o = true) A L σ w := by
 obtain ⟨d, op, ty, pos, after, g⟩ := o
 have hd' : Dx n ⟨d, op, ty, pos, after, none⟩ = true := hd
 unfold exU at h
 split at h
 ·rename_i v hv
  obtain ⟨h1, val, h2, h3⟩ := Asq (P := P) (B := fun b => A b ∧ Z.R b) (w := w) (L := L) (fun _ => True) hr.mem.sl hv
  exact Br hr hd' (h2 w trivial) h1 h3 h
 ·split at h
  ·rename_i v hv
   obtain ⟨h1, val, h2, h3⟩ := Asb (P := P) hr hv
   exact Br hr hd' (h2 w (.refl hr)) h1 h3 h
  ·cases d with
   | some dn => exact Ayu hT hI hr hd' h
   | none =>
    simp only at h
    split at h
    ·rename_i t a x
     refine Rf (Avr hr h) ?_
     rintro σ' w' ⟨s', A', L', g1, g2, g3⟩
     exact ⟨s', A', L', g1, g2, fun g => by simp [nbk, brk] at g⟩
    ·rename_i as ts
     split at h
     ·rename_i x y t t2 has hts
      have h1 := Me has
      have h2 := Me hts
      subst h1 h2
      refine Rf (Atb hr hd' h) ?_
      rintro σ' w' ⟨s', A', L', g1, g2, g3⟩
      exact ⟨s', A', L', g1, g2, fun g => by simp [nbk, brk] at g⟩
     ·cases h
    ·cases h
theorem WL.Azf {rest : List Oper} {K : Env → World → Prop} {o : Oper} {j t : Nat} {want b : Bool} (hg : o.guard = some (j, want)) (hj : (ops[j]?).bind (·.dst) = some t) (hb : σ t = .bool b) (hne : (b == want) = false)
  (hdn : Dx n o = true) (h : WL P n ops rest K (At8 σ o.dst Go.undef) w) : WL P n ops (o :: rest) K σ w := by
 intro ds a ha
 refine wpList_step fun K' hK' => ?_
 have hw : Region.wanted o (yielded ops a.tmps) = false := by
  simp only [Region.wanted, hg, Rb ha hj hb]
  cases b <;> cases want <;> simp_all
 rw [if_neg (by rw [hw]; simp)]
 refine hK' _ _ ?_
 cases hd : o.dst with
 | none => rw [hd] at h; exact h _ _ (ha.Alm _)
 | some d => rw [hd] at h; unfold Dx at hdn; rw [hd] at hdn; exact h _ _ (ha.put hdn _)
theorem WL.Az4 {rest : List Oper} {K : Env → World → Prop} {o : Oper} {j t : Nat} {want : Bool} (hg : o.guard = some (j, want)) (hj : (ops[j]?).bind (·.dst) = some t) (hb : σ t = Go.undef)
  (hdn : Dx n o = true) (h : WL P n ops rest K (At8 σ o.dst Go.undef) w) : WL P n ops (o :: rest) K σ w := by
 intro ds a ha
 refine wpList_step fun K' hK' => ?_
 have hy : yielded ops a.tmps j = none := by
  unfold yielded
  rw [hj]
  have h1 := ha.get t
  rw [hb] at h1
  cases h : a.tmps[t]? with
  | none => simp [h]
  | some v =>
   rw [Array.getD_eq_getD_getElem?, h] at h1
   simp at h1
   subst h1
   simp [h, undef]
 have hw : Region.wanted o (yielded ops a.tmps) = false := by
  simp only [Region.wanted, hg, hy]
  cases want <;> rfl
 rw [if_neg (by rw [hw]; simp)]
 refine hK' _ _ ?_
 cases hd : o.dst with
 | none => rw [hd] at h; exact h _ _ (ha.Alm _)
 | some d => rw [hd] at h; unfold Dx at hdn; rw [hd] at hdn; exact h _ _ (ha.put hdn _)
theorem Arp {o : Oper} {G : Prop} (hr : Rel Z s σs A L σ w) (h : k (s.Cq o.dst .off) = some r) : WL P n ops [] (Anv Z σs k r G A L s.it w) (At8 σ o.dst Go.undef) w := by
 refine WL.nil ⟨_, A, L, h, hr.Axl, fun _ => ?_⟩
 have : (s.Cq o.dst .off).it = s.it := by cases o.dst <;> rfl
 rw [this]; exact .refl
theorem Xk {a b : Bool} : eqB a b = (b == a) := by cases a <;> cases b <;> rfl
theorem Ar6 {G G' : Prop} {σ' : Env} {it : List Item} (hp : Anv Z σs k r G A L it w σ' w') (h : G' → G) : Anv Z σs k r G' A L it w σ' w' := by
 obtain ⟨s', A', L', h1, h2, h3⟩ := hp
 exact ⟨s', A', L', h1, h2, fun g => h3 (h g)⟩
theorem Akr {t dn : Nat} {want b : Bool} {v : PV} {val : Value} (ht : σ t = .bool b) (hne : Nat.beq dn t = false) (h1 : b = want → Cb B w L v val) (h2 : b ≠ want → val = Go.undef) : Dj B w L (Jl σ dn val) dn (.gd t want v) := by
 have htd : t ≠ dn := by intro e; subst e; simp at hne
 exact ⟨b, by rw [Afe _ _ htd]; exact ht, fun e => by rw [Po]; exact h1 e, fun e => by rw [Po]; exact h2 e⟩
theorem Atl {o : Oper} {j t dn : Nat} {want b : Bool} {v : PV} {G : Prop} (hr : Rel Z s σs A L σ w) (hg : o.guard = some (j, want)) (hj : (ops[j]?).bind (·.dst) = some t) (ht : σ t = .bool b) (hdn : Dx n o = true) (hd : o.dst = some dn)
  (hne : Nat.beq dn t = false) (hv : b = want → v.isV = true ∧ ∃ val, XO P σ w o.op val ∧ Cb (fun b => A b ∧ Z.R b) w L v val) (hk : k (s.set dn (.gd t want v)) = some r) : Kh P n ops o Z s σs k r G A L σ w := by
 by_cases hbw : b = want
 ·obtain ⟨h1, val, h2, h3⟩ := hv hbw
  refine WL.on hg hj ht (by simpa using hbw) (WL.Asd rfl (by simpa [Dx] using hdn) (h2 _ _ _ _ _) (WL.nil ⟨_, A, L, hk, ?_, fun _ => .refl⟩))
  simp only [hd]
  exact hr.set (Akr ht hne (fun _ => h3) (fun e => absurd hbw e))
 ·refine WL.Azf hg hj ht (by simpa using hbw) hdn (WL.nil ⟨_, A, L, hk, ?_, fun _ => .refl⟩)
  rw [hd]
  exact hr.set (Akr ht hne (fun e => absurd e hbw) (fun _ => rfl))
theorem Ou {t : Nat} {b : Bool} (hm : SlotsR B w L σ s.sl) (h : Kx s.sl t = .val .bool b) : σ t = .bool b := by
 have h1 := Gu (t := t) hm
 rw [h] at h1
 exact Lu h1
theorem Agk {t : Nat} {b : Bool} (hm : SlotsR B w L σ s.sl) (h : Kx s.sl t = .cst (.bool b)) : σ t = .bool b := by
 have h1 := Gu (t := t) hm
 rw [h] at h1
 have : [σ t] = [Value.bool b] := h1.1
 simpa using this
theorem Aym {o : Oper} {j t : Nat} {want : Bool} (hT : Ag9 P T Z) (hI : Abg P T.gl inl) (hr : Rel Z s σs A L σ w) (hd : Dx n o = true) (hg : o.guard = some (j, want)) (hj : (ops[j]?).bind (·.dst) = some t)
  (h : exG P T inl o t want s k = some r) : Kh P n ops o Z s σs k r (nbk T s o = true ∧ ∃ b, Kx s.sl t = .cst (.bool b)) A L σ w := by
 have hm := hr.mem
 have lit : ∀ (G : Prop) (s1 : S) (b : Bool), (G → nbk T s1 o = true) → Rel Z s1 σs A L σ w → s1.it = s.it → σ t = .bool b → (Bj (eqB want b ) (exU P T inl o s1 k ) <| k (s1.Cq o.dst .off)) = some r → Kh P n ops o Z s σs k r G A L σ w := by
  intro G s1 b hG hr1 hit ht h
  cases hb : eqB want b with
  | true =>
   rw [hb] at h
   refine WL.on hg hj ht (by rw [← Xk]; exact hb) (Rf (Avn hT hI hr1 hd h) fun σ' w' hp => ?_)
   rw [← hit]
   exact Ar6 hp hG
  | false =>
   rw [hb] at h
   refine WL.Azf hg hj ht (by rw [← Xk]; exact hb) hd ?_
   rw [← hit]
   exact Arp hr1 h
 unfold exG at h
 simp only at h
 split at h
 ·rename_i b hb
  exact lit _ s b (fun g => g.1) hr rfl (Agk hm.sl hb) h
 ·rename_i hb
  have h1 := Gu (t := t) hm.sl
  rw [hb] at h1
  exact WL.Az4 hg hj h1 hd (Arp hr h)
 ·rename_i b hb
  have ht := Ou hm.sl hb
  have nog : ∀ {X : Prop}, (∃ b, Kx s.sl t = .cst (.bool b)) → X := fun ⟨_, g⟩ => by rw [hb] at g; cases g
  split at h
  ·rename_i dn v hdn hv
   cases hne : Nat.beq dn t with
   | true => rw [hne] at h; cases h
   | false =>
    rw [hne] at h
    refine Atl hr hg hj ht hd hdn hne (fun hbw => ?_) h
    subst hbw
    obtain ⟨h1, val, h2, h3⟩ := Asq (P := P) (fun _ => True) (hr.res ht).mem.sl hv
    exact ⟨h1, val, h2 w trivial, h3⟩
  ·rename_i dn v hdn hv0 hv
   cases hne : Nat.beq dn t with
   | true => rw [hne] at h; cases h
   | false =>
    rw [hne] at h
    refine Atl hr hg hj ht hd hdn hne (fun hbw => ?_) h
    subst hbw
    obtain ⟨h1, val, h2, h3⟩ := Asb (P := P) (hr.res ht) hv
    exact ⟨h1, val, h2 w (.refl (hr.res ht)), h3⟩
  ·cases b with
   | true => exact lit _ (s.res t true) true (fun g => nog g.2) (hr.res ht) rfl ht (by simpa using h)
   | false => exact lit _ (s.res t false) false (fun g => nog g.2) (hr.res ht) rfl ht (by simpa using h)
 ·cases h
theorem Atq {o : Oper} (hT : Ag9 P T Z) (hI : Abg P T.gl inl) (hr : Rel Z s σs A L σ w) (h : Ani P T inl n ops o s k = some r) : Kh P n ops o Z s σs k r (nbk T s o = true ∧ gOk ops s o = true) A L σ w := by
 have hm := hr.mem
 unfold Ani at h
 cases hd : Dx n o with
 | false => rw [hd] at h; cases h
 | true =>
  rw [hd] at h
  simp only [Bool.not_true, cond_false] at h; try dsimp only [Bj] at h
  split at h
  ·rename_i hg
   have : ({ o with guard := none } : Oper) = o := by cases o; simp only at hg; subst hg; rfl
   rw [← this]
   refine Rf (Avn hT hI hr hd h) fun σ' w' hp => Ar6 hp ?_
   rintro ⟨g, _⟩; rw [this] at g; exact g
  ·rename_i j want hg
   split at h
   ·cases h
   ·rename_i t hj
    have fin : ∀ s1 : S, (gOk ops s o = true → s1 = s) → Rel Z s1 σs A L σ w → s1.it = s.it → exG P T inl o t want s1 k = some r → Kh P n ops o Z s σs k r (nbk T s o = true ∧ gOk ops s o = true) A L σ w := by
     intro s1 hs hr1 hit h
     refine Rf (Aym hT hI hr1 hd hg hj h) fun σ' w' hp => ?_
     rw [← hit]
     refine Ar6 hp (fun g => ?_)
     have := hs g.2
     subst this
     refine ⟨g.1, ?_⟩
     have h2 := g.2
     unfold gOk at h2
     simp only [hg, hj] at h2
     split at h2
     ·exact ⟨_, by assumption⟩
     ·cases h2
    split at h
    ·rename_i t2 w2 v hv
     have nog : ∀ {X : Prop}, gOk ops s o = true → X := fun g => by
      unfold gOk at g
      simp only [hg, hj, hv] at g
      cases g
     split at h
     ·rename_i b hb
      have ht := Ou hm.sl hb
      cases b with
      | true => exact fin _ nog (hr.res ht) rfl (by simpa using h)
      | false => exact fin _ nog (hr.res ht) rfl (by simpa using h)
     ·cases h
    ·exact fin s (fun _ => rfl) hr rfl h
theorem Aqd (hT : Ag9 P T Z) (hI : Abg P T.gl inl) : ∀ {l : List Oper} {s : S} {A : Reg} {L : List MD} {σ : Env} {w : World}, Rel Z s σs A L σ w → Aox P T inl n ops l s k = some r →
  WL P n ops l (fun σ' w' => ∃ s' A' L', k s' = some r ∧ Rel Z s' σs A' L' σ' w') σ w
 | [], s, A, L, σ, w, hr, h => WL.nil ⟨s, A, L, h, hr⟩
 | o :: l, s, A, L, σ, w, hr, h => by
  have h1 := Atq (ops := ops) hT hI hr h
  refine WL.cut _ [o] h1 ?_
  rintro σ' w' ⟨s', A', L', g1, g2, _⟩
  exact Aqd hT hI g2 g1
end Go.Rx
set_option linter.unusedVariables false
set_option linter.unusedSimpArgs false
namespace Go.Rx
open Go Go.Lv
variable {P : Program} {B B' : Reg} {w w' : World} {L L' : List MD} {s : S} {σs : List Env} {σ : Env} {Z : Fix} {A A' : Reg} {n : Nat} {ops : Array Oper}
variable {R : Type} {k : S → Option R} {r : R} {d : Option Nat} {ty : TypeId} {pos : String} {after : Array Edge} {T : Tab} {inl : Inl R} {mem : Bool} {listed : Array Bool}
def Ai0 (Z : Fix) (σs : List Env) (A : Reg) (L : List MD) (it : List Item) (w w' : World) : Prop := ∃ s2 σ2 A' L', Rel Z s2 σs A' L' σ2 w' ∧ Grow A L it w A' L' s2.it w'
theorem Ai0.refl (hr : Rel Z s σs A L σ w) : Ai0 Z σs A L s.it w w := ⟨s, σ, A, L, hr, .refl⟩
theorem Ai0.ext (hr : Rel Z s σs A L σ w) (h : Ai0 Z σs A L s.it w w') : Ext Z s σs A L σ w w' := by
 obtain ⟨s2, σ2, A', L', h1, h2⟩ := h
 exact h2.ext hr h1
theorem Agi {z : Array Bool} : ∀ {is : List Nat} {i d : Nat} {v : PV}, Ke P T n mem ops z listed s is = some (i, d, v) → ∃ o, ops[i]? = some o ∧ Jz ops (tw z) listed i = true ∧ Ap7 P T n mem ops o s = some (d, v)
 | [], _, _, _, h => by simp [Ke] at h
 | j :: is, i, d, v, h => by
  simp only [Ke] at h
  split at h
  ·cases h
  ·rename_i o ho
   split at h
   ·rename_i d' v' hp
    cases h
    cases ht : Jz ops (tw z) listed j with
    | true => rw [ht] at hp; exact ⟨o, ho, by first | exact ht | rfl, hp⟩
    | false => rw [ht] at hp; cases hp
   ·exact Agi h
def GS (Z : Fix) (σs : List Env) (w' : World) : Prop := ∃ s2 σ2 A2 L2, Rel Z s2 σs A2 L2 σ2 w'
theorem Ext.gs (h : Ext Z s σs A L σ w w') : GS Z σs w' := by
 obtain ⟨⟨A', L', it', _, hr⟩, _⟩ := h
 exact ⟨_, _, _, _, hr⟩
theorem At0 {g : Nat} {t : TypeId} {v : PV} (hT : Ag9 P T Z) (h : T.glv P g t = some v) : ∃ cs, (∀ w', GS Z σs w' → ∃ T1 fr, w'.heap[g]? = some (.cells cs.toArray T1 fr)) ∧ ∀ (B : Reg) (w : World) (L : List MD), EncC B w L v cs := by
 unfold Tab.glv at h
 split at h
 ·rename_i cs hg
  split at h
  ·rename_i v' hp
   cases h
   refine ⟨cs, fun w' hw => ?_, fun B w L => ?_⟩
   ·obtain ⟨s2, σ2, A2, L2, hr⟩ := hw
    obtain ⟨_, T1, fr, h2⟩ := hr.Awd (p := (g, cs)) (by rw [hT.2]; exact Ali hg)
    exact ⟨T1, fr, h2⟩
   ·obtain ⟨c, e1, h3⟩ := Wi (B := B) (w := w) (L := L) Q hp
    rw [List.append_nil] at e1
    subst e1
    exact h3
  ·cases h
 ·cases h
theorem Axq {o : Op} {v : PV} (hT : Ag9 P T Z) (h : Ayq P T o = some v) : v.isV = true ∧ ∃ val, (∀ w', GS Z σs w' → XO P σ w' o val) ∧ Cb (fun b => A b ∧ Z.R b) w L v val := by
 unfold Ayq at h
 split at h
 ·rename_i t g
  split at h
  ·rename_i u hv
   obtain ⟨hb, hk⟩ := Ak h
   cases hk
   obtain ⟨cs, h1, h3⟩ := At0 (σs := σs) hT hv
   obtain ⟨val, h7, h8⟩ := Abs (P := P) (σ := σ) (x := .global g) (b := g) (off := 0) (Fz hb) (h3 (fun b => A b ∧ Z.R b) w L) rfl
   obtain ⟨hv1, hv2⟩ := Ea h7
   refine ⟨hv1, val, fun w' hw => h8 w' fun j hj => ?_, hv2⟩
   obtain ⟨T1, fr, h4⟩ := h1 w' hw
   rw [cell_of h4]; simp
  ·cases h
 ·cases h
theorem Anl {o : Op} {v : PV} {S : World → Prop} (hT : Ag9 P T Z) (hr : Rel Z s σs A L σ w) (h : Ai6 P T mem s o = some v) (hS : mem = true → ∀ w', S w' → Ext Z s σs A L σ w w') (hG : ∀ w', S w' → GS Z σs w') : v.isV = true ∧ ∃ val, (∀ w', S w' → XO P σ w' o val) ∧ Cb (fun b => A b ∧ Z.R b) w L v val := by
 unfold Ai6 at h
 split at h
 ·rename_i u hu
  cases h
  exact Asq (P := P) S hr.mem.sl hu
 ·split at h
  ·rename_i u hu
   cases h
   cases mem with
   | true =>
    obtain ⟨h1, val, h2, h3⟩ := Asb (P := P) hr hu
    exact ⟨h1, val, fun w' hw => h2 w' (hS rfl w' hw), h3⟩
   | false => cases hu
  ·obtain ⟨h1, val, h2, h3⟩ := Axq (σs := σs) (σ := σ) (A := A) (w := w) (L := L) hT h
   exact ⟨h1, val, fun w' hw => h2 w' (hG w' hw), h3⟩
theorem Awu {t : Nat} {b : Bool} {w' : World} (h : Ext Z s σs A L σ w w') (ht : σ t = .bool b) : Ext Z (s.res t b) σs A L σ w w' := by
 obtain ⟨⟨A', L', it', h1, h2⟩, h3⟩ := h
 exact ⟨⟨A', L', it', h1, Rel.res (s := ⟨s.sl, s.it ++ it', s.st⟩) h2 ht⟩, h3⟩
theorem Atw {S : World → Prop} {z : Array Bool} {fuel i dn : Nat} {o : Oper} {v : PV} {K : Env → World → Prop} (hT : Ag9 P T Z) (hr : Rel Z s σs A L σ w) (hi : ops[i]? = some o) (hB : Jz ops (tw z) listed i = true) (hp : Ap7 P T n mem ops o s = some (dn, v)) (hSw : S w)
  (hS : mem = true → ∀ w', S w' → Ext Z s σs A L σ w w') (hG : ∀ w', S w' → GS Z σs w') (h : ∀ σ', Rel Z (s.set dn v) σs A L σ' w → WD P n ops S (tw z) fuel (listed.setIfInBounds i true) K σ' w) : WD P n ops S (tw z) (fuel + 1) listed K σ w := by
 obtain ⟨d, op, ty, pos, after, g⟩ := o
 have hm := hr.mem
 unfold Ap7 at hp
 simp only at hp
 split at hp
 ·cases hp
 ·rename_i d'
  cases hn : Nat.blt d' n with
  | false => rw [hn] at hp; cases hp
  | true =>
   rw [hn] at hp
   simp only [Bool.not_true, cond_false] at hp; try dsimp only [Bj] at hp
   split at hp
   ·
    cases hv : Ai6 P T mem s op with
    | none => rw [hv] at hp; cases hp
    | some u =>
     rw [hv] at hp; cases hp
     obtain ⟨h1, val, h2, h3⟩ := Anl hT hr hv hS hG
     exact WD.x i hi hB hn hSw h2 (h _ (hr.set (.put h1 h3)))
   ·rename_i j want
    split at hp
    ·cases hp
    ·rename_i t hj
     split at hp
     ·rename_i b hb
      have ht := Agk hm.sl hb
      cases hw : eqB want b with
      | true =>
       rw [hw] at hp
       dsimp only [Bj, cond] at hp
       cases hv : Ai6 P T mem s op with
       | none => rw [hv] at hp; cases hp
       | some u =>
        rw [hv] at hp; cases hp
        obtain ⟨h1, val, h2, h3⟩ := Anl hT hr hv hS hG
        have hbw : (b == want) = true := by rw [← Xk]; exact hw
        refine WD.gx (v := val) i hi hB hn hj ht hSw (fun _ => h2) (h _ ?_)
        rw [Alp hbw]
        exact hr.set (.put h1 h3)
      | false =>
       rw [hw] at hp
       cases hp
       have hbw : (b == want) = false := by rw [← Xk]; exact hw
       refine WD.gx (v := Go.undef) i hi hB hn hj ht hSw (fun hg => by rw [hbw] at hg; cases hg) (h _ ?_)
       rw [Ar4 hbw]
       exact hr.set (show Jl σ dn Go.undef dn = Go.undef from Po _ _ _)
     ·rename_i b hb
      have ht := Ou hm.sl hb
      cases hne : Nat.beq d' t with
      | true => rw [hne] at hp; cases hp
      | false =>
       rw [hne] at hp
       dsimp only [Bj, cond] at hp
       cases hv : Ai6 P T mem (s.res t want) op with
       | none => rw [hv] at hp; cases hp
       | some u =>
        rw [hv] at hp; cases hp
        by_cases hbw : b = want
        ·subst hbw
         obtain ⟨h1, val, h2, h3⟩ := Anl hT (hr.res ht) hv (fun hm w' hw => Awu (hS hm w' hw) ht) hG
         refine WD.gx (v := val) i hi hB hn hj ht hSw (fun _ => h2) (h _ ?_)
         rw [Alp (by simp)]
         exact hr.set (Akr ht hne (fun _ => h3) (fun e => absurd rfl e))
        ·refine WD.gx (v := Go.undef) i hi hB hn hj ht hSw (fun hg => absurd (by simpa using hg) hbw) (h _ ?_)
         rw [Ar4 (by simpa using hbw)]
         exact hr.set (Akr ht hne (fun e => absurd e hbw) (fun _ => rfl))
     ·cases hp
theorem Ack {z : Array Bool} : ∀ {is : List Nat} {i d : Nat} {v : BG}, Mp P n ops z listed s is = some (i, d, v) → ∃ o, ops[i]? = some o ∧ Jz ops (tw z) listed i = true ∧ Aoe P n ops o s = some (d, v)
 | [], _, _, _, h => by simp [Mp] at h
 | j :: is, i, d, v, h => by
  simp only [Mp] at h
  split at h
  ·cases h
  ·rename_i o ho
   split at h
   ·rename_i d' v' hp
    cases h
    cases ht : Jz ops (tw z) listed j with
    | true => rw [ht] at hp; exact ⟨o, ho, by first | exact ht | rfl, hp⟩
    | false => rw [ht] at hp; cases hp
   ·exact Ack h
theorem Av1 {S : World → Prop} {z : Array Bool} {fuel i dn : Nat} {o : Oper} {b : BV} {x : b.X} {K : Env → World → Prop} (hr : Rel Z s σs A L σ w) (hi : ops[i]? = some o) (hB : Jz ops (tw z) listed i = true) (hp : Aoe P n ops o s = some (dn, .on b)) (hx : b.E = some x) (hSw : S w)
  (h : ∀ σ', Rel Z (s.set dn (b.v x)) σs A L σ' w → WD P n ops S (tw z) fuel (listed.setIfInBounds i true) K σ' w) : WD P n ops S (tw z) (fuel + 1) listed K σ w := by
 obtain ⟨d, op, ty, pos, after, g⟩ := o
 have hm := hr.mem
 unfold Aoe at hp
 simp only at hp
 split at hp
 ·cases hp
 ·rename_i d'
  cases hn : Nat.blt d' n with
  | false => rw [hn] at hp; cases hp
  | true =>
   rw [hn] at hp
   simp only [Bool.not_true, cond_false] at hp; try dsimp only [Bj] at hp
   split at hp
   ·cases hv : bnd P s op with
    | none => rw [hv] at hp; cases hp
    | some u =>
     rw [hv] at hp; cases hp
     obtain ⟨h1, val, h2, h3⟩ := As1 hr hv hx
     exact WD.x i hi hB hn hSw (fun w' _ => h2 w') (h _ (hr.set (.put h1 h3)))
   ·rename_i j want
    split at hp
    ·cases hp
    ·rename_i t hj
     split at hp
     ·rename_i c hb
      have ht := Agk hm.sl hb
      cases hw : eqB want c with
      | true =>
       rw [hw] at hp
       dsimp only [Bj, cond] at hp
       cases hv : bnd P s op with
       | none => rw [hv] at hp; cases hp
       | some u =>
        rw [hv] at hp; cases hp
        obtain ⟨h1, val, h2, h3⟩ := As1 hr hv hx
        have hbw : (c == want) = true := by rw [← Xk]; exact hw
        refine WD.gx (v := val) i hi hB hn hj ht hSw (fun _ w' _ => h2 w') (h _ ?_)
        rw [Alp hbw]
        exact hr.set (.put h1 h3)
      | false => rw [hw] at hp; cases hp
     ·rename_i c hb
      cases hne : Nat.beq d' t with
      | true => rw [hne] at hp; cases hp
      | false =>
       rw [hne] at hp
       dsimp only [Bj, cond] at hp
       cases hv : bnd P (s.res t want) op with
       | none => rw [hv] at hp; cases hp
       | some u => rw [hv] at hp; cases hp
     ·cases hp
theorem Att {S : World → Prop} {z : Array Bool} {fuel i dn t : Nat} {want bv : Bool} {o : Oper} {b : BV} {K : Env → World → Prop} {X : Go.Rx.S → Option R} (hr : Rel Z s σs A L σ w) (hi : ops[i]? = some o) (hB : Jz ops (tw z) listed i = true) (hp : Aoe P n ops o s = some (dn, .ask t want bv b)) (hSw : S w)
  (hx : (Bj (eqB want bv ) (Option.bind b.E fun x => X ((s.res t bv).set dn (b.v x)) ) <| X ((s.res t bv).set dn .off)) = some r)
  (h : ∀ s', s'.it = s.it → ∀ σ', Rel Z s' σs A L σ' w → X s' = some r → WD P n ops S (tw z) fuel (listed.setIfInBounds i true) K σ' w) : WD P n ops S (tw z) (fuel + 1) listed K σ w := by
 obtain ⟨d, op, ty, pos, after, g⟩ := o
 have hm := hr.mem
 unfold Aoe at hp
 simp only at hp
 split at hp
 ·cases hp
 ·rename_i d'
  cases hn : Nat.blt d' n with
  | false => rw [hn] at hp; cases hp
  | true =>
   rw [hn] at hp
   simp only [Bool.not_true, cond_false] at hp; try dsimp only [Bj] at hp
   split at hp
   ·cases hv : bnd P s op with
    | none => rw [hv] at hp; cases hp
    | some u => rw [hv] at hp; cases hp
   ·rename_i j want'
    split at hp
    ·cases hp
    ·rename_i t' hj
     split at hp
     ·rename_i c hb
      cases hw : eqB want' c with
      | true =>
       rw [hw] at hp
       dsimp only [Bj, cond] at hp
       cases hv : bnd P s op with
       | none => rw [hv] at hp; cases hp
       | some u => rw [hv] at hp; cases hp
      | false => rw [hw] at hp; cases hp
     ·rename_i c hb
      have ht := Ou hm.sl hb
      cases hne : Nat.beq d' t' with
      | true => rw [hne] at hp; cases hp
      | false =>
       rw [hne] at hp
       dsimp only [Bj, cond] at hp
       cases hv : bnd P (s.res t' want') op with
       | none => rw [hv] at hp; cases hp
       | some u =>
        rw [hv] at hp; cases hp
        cases hw : eqB want bv with
        | true =>
         rw [hw] at hx
         dsimp only [Bj, cond] at hx
         obtain ⟨x, hx, hk⟩ := bind_some hx
         have hbw : bv = want := by cases want <;> cases bv <;> simp_all [eqB]
         subst hbw
         obtain ⟨h1, val, h2, h3⟩ := As1 (hr.res ht) hv hx
         refine WD.gx (v := val) i hi hB hn hj ht hSw (fun _ w' _ => h2 w') (h ((s.res t bv).set dn (b.v x)) rfl _ ?_ hk)
         rw [Alp (by simp)]
         exact (hr.res ht).set (.put h1 h3)
        | false =>
         rw [hw] at hx
         dsimp only [Bj, cond] at hx
         have hbw : (bv == want) = false := by rw [← Xk]; exact hw
         refine WD.gx (v := Go.undef) i hi hB hn hj ht hSw (fun hg => by rw [hbw] at hg; cases hg) (h ((s.res t bv).set dn .off) rfl _ ?_ hx)
         rw [Ar4 hbw]
         exact (hr.res ht).set (show Jl σ dn Go.undef dn = Go.undef from Po _ _ _)
     ·cases hp
theorem Ak5 {z : Array Bool} : ∀ {is : List Nat} {i : Nat} {v : Nat × TypeId × Nat × List Step}, Sc n ops z listed s is = some (i, v) → ∃ o, ops[i]? = some o ∧ Jz ops (tw z) listed i = true ∧ Awy n ops o s = some v
 | [], _, _, h => by simp [Sc] at h
 | j :: is, i, v, h => by
  simp only [Sc] at h
  split at h
  ·cases h
  ·rename_i o ho
   split at h
   ·rename_i v' hp
    cases h
    cases ht : Jz ops (tw z) listed j with
    | true => rw [ht] at hp; exact ⟨o, ho, by first | exact ht | rfl, hp⟩
    | false => rw [ht] at hp; cases hp
   ·exact Ak5 h
theorem Ax8 {d dn : Nat} {o : Op} {t : TypeId} {j : Nat} {p : List Step} {u : PV} {kk : PV → Option R} (hr : Rel Z s σs A L σ w) (hp : Aw7 s d o = some (dn, t, j, p)) (h : getRoot (Bb s.it j) p kk = some r) :
  d = dn ∧ ∃ u, kk u = some r ∧ (Ff P t u = true → u.isV = true ∧ ∃ val, (∀ w', Ext Z s σs A L σ w w' → XO P σ w' o val) ∧ Cb (fun b => A b ∧ Z.R b) w L u val) := by
 have hm := hr.mem
 unfold Aw7 at hp
 split at hp
 ·rename_i t' x
  split at hp
  ·rename_i i p' hx
   split at hp
   ·cases hp
   ·rename_i hne
    cases hp
    obtain ⟨md, b, h1, h2, h3⟩ := Jb (Bl hm.sl hx rfl)
    obtain ⟨h4, _⟩ := hm.root h1 (fun e => hne e)
    obtain ⟨u, c1, c2, c3, hk, he, h5, h6⟩ := Amh h h4
    refine ⟨rfl, u, hk, fun hb => ?_⟩
    obtain ⟨val, h7, h8⟩ := Abs (P := P) (σ := σ) (x := x) (b := b) (off := Ag p) (Fz hb) h6 h3
    obtain ⟨hv, hv'⟩ := Ea h7
    refine ⟨hv, val, fun w' hext => h8 w' fun q hq => ?_, hv'⟩
    obtain ⟨A', L', it', ha, hr'⟩ := hext.ex
    have h10 : (L ++ L')[j]? = some md := by rw [List.getElem?_append_left (List.getElem?_eq_some_iff.1 h1).1]; exact h1
    rw [hr'.cells h10 h2 _ (by rw [he]; simp; omega), he, List.getElem?_append_right (by omega), h5, show Ag p + q - Ag p = q by omega, List.getElem?_append_left hq]
  ·cases hp
 ·cases hp
theorem Az8 {S : World → Prop} {z : Array Bool} {fuel i dn j : Nat} {t : TypeId} {p : List Step} {o : Oper} {kk : PV → Option R} {K : Env → World → Prop} (hr : Rel Z s σs A L σ w) (hi : ops[i]? = some o) (hB : Jz ops (tw z) listed i = true) (hp : Awy n ops o s = some (dn, t, j, p)) (hg : getRoot (Bb s.it j) p kk = some r) (hSw : S w)
  (hS : ∀ w', S w' → Ext Z s σs A L σ w w') (hkk : ∀ u, kk u = some r → Ff P t u = true)
  (h : ∀ u σ', kk u = some r → Rel Z (s.set dn u) σs A L σ' w → WD P n ops S (tw z) fuel (listed.setIfInBounds i true) K σ' w) : WD P n ops S (tw z) (fuel + 1) listed K σ w := by
 obtain ⟨d, op, ty, pos, after, g⟩ := o
 have hm := hr.mem
 unfold Awy at hp
 simp only at hp
 split at hp
 ·cases hp
 ·rename_i d'
  cases hn : Nat.blt d' n with
  | false => rw [hn] at hp; cases hp
  | true =>
   rw [hn] at hp
   simp only [Bool.not_true, cond_false] at hp; try dsimp only [Bj] at hp
   split at hp
   ·obtain ⟨rfl, u, hk, hu⟩ := Ax8 (P := P) (u := .undef) hr hp hg
    obtain ⟨h1, val, h2, h3⟩ := hu (hkk u hk)
    exact WD.x i hi hB hn hSw (fun w' hw => h2 w' (hS w' hw)) (h u _ hk (hr.set (.put h1 h3)))
   ·rename_i q want
    split at hp
    ·cases hp
    ·rename_i t' hj
     split at hp
     ·rename_i c hb
      have ht := Agk hm.sl hb
      cases hw : eqB want c with
      | true =>
       rw [hw] at hp
       dsimp only [Bj, cond] at hp
       obtain ⟨rfl, u, hk, hu⟩ := Ax8 (P := P) (u := .undef) hr hp hg
       obtain ⟨h1, val, h2, h3⟩ := hu (hkk u hk)
       have hbw : (c == want) = true := by rw [← Xk]; exact hw
       refine WD.gx (v := val) i hi hB hn hj ht hSw (fun _ w' hw => h2 w' (hS w' hw)) (h u _ hk ?_)
       rw [Alp hbw]
       exact hr.set (.put h1 h3)
      | false => rw [hw] at hp; cases hp
     ·cases hp
theorem Aua {i t : Nat} {b : Bool} (hr : Rel Z s σs A L σ w) (h : Asr ops s i = some (t, b)) : σ t = .bool b := by
 unfold Asr at h
 split at h
 ·cases h
 ·split at h
  ·cases h
  ·split at h
   ·cases h
   ·split at h
    ·rename_i hb
     cases h
     exact Ou hr.mem.sl hb
    ·split at h
     ·rename_i hb
      cases h
      exact Ou hr.mem.sl hb
     ·cases h
    ·cases h
theorem Ac4 {fin : S → Option R} : ∀ {l : List Nat} {s : Go.Rx.S}, Rel Z s σs A L σ w → Xb ops l s fin = some r → ∃ s', Rel Z s' σs A L σ w ∧ s'.it = s.it ∧ fin s' = some r
 | [], s, hr, h => ⟨s, hr, rfl, h⟩
 | i :: l, s, hr, h => by
  rw [Xb] at h
  split at h
  ·rename_i t b hg
   have ht := Aua hr hg
   cases b with
   | true =>
    obtain ⟨s', h1, h2, h3⟩ := Ac4 (l := l) (hr.res ht) (by simpa using h)
    exact ⟨s', h1, h2, h3⟩
   | false =>
    obtain ⟨s', h1, h2, h3⟩ := Ac4 (l := l) (hr.res ht) (by simpa using h)
    exact ⟨s', h1, h2, h3⟩
  ·exact Ac4 (l := l) hr h
theorem Ay3 (hT : Ag9 P T Z) (hI : Abg P T.gl inl) : ∀ {fuel : Nat} {z0 : Array Bool} {listed : Array Bool} {s : S} {A : Reg} {L : List MD} {σ : Env} {w : World} {S : World → Prop}, Rel Z s σs A L σ w → Rz P T inl n mem ops fuel z0 listed s k = some r →
  (mem = true → Qm (tw z0) listed = true ∨ ∀ w', Ai0 Z σs A L s.it w w' → S w') → (mem = false → ∀ w', GS Z σs w' → S w') →
  WD P n ops S (tw z0) fuel listed (fun σ' w' => ∃ s' A' L', k s' = some r ∧ Rel Z s' σs A' L' σ' w') σ w := by
 intro fuel
 induction fuel with
 | zero =>
  intro z0 listed s A L σ w S hr h hI1 hI2
  unfold Rz at h
  split at h
  ·rename_i hrd; exact WD.done hrd ⟨s, A, L, h, hr⟩
  ·cases h
 | succ fuel ih =>
  intro z0 listed s A L σ w S hr h hI1 hI2
  unfold Rz at h
  split at h
  ·rename_i hrd; exact WD.done hrd ⟨s, A, L, h, hr⟩
  ·rename_i i is hrd
   simp only at h
   have rest : ∀ (z : Array Bool) (S : World → Prop) (s : Go.Rx.S), Rel Z s σs A L σ w → (mem = true → ∀ w', Ai0 Z σs A L s.it w w' → S w') → (mem = false → ∀ w', GS Z σs w' → S w') →
     both (match ops[i]? with
        | some o => Bj (mem && !((nbk T s o && gOk ops s o) || (!tw z i && Qm (tw z) (listed.setIfInBounds i true))) ) (none ) <|
         Ani P T inl n ops o s fun s' => Rz P T inl n mem ops fuel z (listed.setIfInBounds i true) s' k
        | none => none) (is.map fun i => match ops[i]? with
        | some o => Bj (mem && !((nbk T s o && gOk ops s o) || (!tw z i && Qm (tw z) (listed.setIfInBounds i true))) ) (none ) <|
         Ani P T inl n ops o s fun s' => Rz P T inl n mem ops fuel z (listed.setIfInBounds i true) s' k
        | none => none) = some r → WD P n ops S (tw z) (fuel + 1) listed (fun σ' w' => ∃ s' A' L', k s' = some r ∧ Rel Z s' σs A' L' σ' w') σ w := by
    intro z S s hr hS1 hS2 h
    obtain ⟨h1, h2⟩ := Apc h
    refine WD.steps hrd rfl ?_
    intro q hq
    have hone : (match ops[q]? with
       | some o => Bj (mem && !((nbk T s o && gOk ops s o) || (!tw z q && Qm (tw z) (listed.setIfInBounds q true))) ) (none ) <|
        Ani P T inl n ops o s fun s' => Rz P T inl n mem ops fuel z (listed.setIfInBounds q true) s' k
       | none => none) = some r := by
     rcases List.mem_cons.1 hq with rfl | hq
     ·exact h1
     ·exact h2 _ (List.mem_map_of_mem hq)
    split at hone
    ·rename_i o ho
     refine ⟨o, ho, ?_⟩
     cases hc : (mem && !((nbk T s o && gOk ops s o) || (!tw z q && Qm (tw z) (listed.setIfInBounds q true)))) with
     | true => rw [hc] at hone; cases hone
     | false =>
      rw [hc] at hone
      dsimp only [Bj, cond] at hone
      refine Rf (Atq hT hI hr hone) ?_
      rintro σ' w' ⟨s', A', L', g1, g2, g3⟩
      cases hmem : mem with
      | true =>
       subst hmem
       simp only [Bool.true_and, Bool.not_eq_false', Bool.or_eq_true, Bool.and_eq_true, Bool.not_eq_true'] at hc
       rcases hc with hc | ⟨hc1, hc2⟩
       ·have g4 := g3 hc
        refine ⟨fun _ => hS1 rfl _ ⟨s', σ', A', L', g2, g4⟩, ih g2 g1 (fun _ => .inr fun w'' hw => ?_) (fun e => by cases e)⟩
        obtain ⟨s2, σ2, A2, L2, h5, h6⟩ := hw
        exact hS1 rfl _ ⟨s2, σ2, A2, L2, h5, g4.trans h6⟩
       ·refine ⟨fun hlt => ?_, ih g2 g1 (fun _ => .inl hc2) (fun e => by cases e)⟩
        rw [hlt] at hc1; cases hc1
      | false =>
       subst hmem
       exact ⟨fun _ => hS2 rfl _ ⟨_, _, _, _, g2⟩, ih g2 g1 (fun e => by cases e) hS2⟩
    ·cases hone
   have main : ∀ (z : Array Bool) (S : World → Prop) (s : Go.Rx.S) (F : Option R), Rel Z s σs A L σ w → (mem = true → ∀ w', Ai0 Z σs A L s.it w w' → S w') → (mem = false → ∀ w', GS Z σs w' → S w') → (F = some r → WD P n ops S (tw z) (fuel + 1) listed (fun σ' w' => ∃ s' A' L', k s' = some r ∧ Rel Z s' σs A' L' σ' w') σ w) →
     (match Ke P T n mem ops z listed s (i :: is) with
      | some (i, d, v) => Rz P T inl n mem ops fuel z (listed.setIfInBounds i true) (s.set d v) k
      | none => match Mp P n ops z listed s (i :: is) with
       | some (i, d, .on b) => Option.bind b.E fun x => Rz P T inl n mem ops fuel z (listed.setIfInBounds i true) (s.set d (b.v x)) k
       | some (i, d, .ask t want bv b) => if bv = true then
         (Bj (eqB want true ) (Option.bind b.E fun x => Rz P T inl n mem ops fuel z (listed.setIfInBounds i true) ((s.res t true).set d (b.v x)) k ) <| Rz P T inl n mem ops fuel z (listed.setIfInBounds i true) ((s.res t true).set d .off) k)
         else (Bj (eqB want false ) (Option.bind b.E fun x => Rz P T inl n mem ops fuel z (listed.setIfInBounds i true) ((s.res t false).set d (b.v x)) k ) <| Rz P T inl n mem ops fuel z (listed.setIfInBounds i true) ((s.res t false).set d .off) k)
       | none => match (Bj (mem ) (Sc n ops z listed s (i :: is) ) <| none) with
       | some (i, d, t, j, p) => getRoot (Bb s.it j) p fun u => Bj (Ff P t u ) (Rz P T inl n mem ops fuel z (listed.setIfInBounds i true) (s.set d u) k ) <| none
       | none => F) = some r → WD P n ops S (tw z) (fuel + 1) listed (fun σ' w' => ∃ s' A' L', k s' = some r ∧ Rel Z s' σs A' L' σ' w') σ w := by
    intro z S s F hr hS1 hS2 hfin h
    split at h
    ·rename_i i' d v hp
     obtain ⟨o, ho, hB, hp⟩ := Agi hp
     cases hmem : mem with
     | true =>
      subst hmem
      refine WD.Amj (S' := Ai0 Z σs A L s.it w) (hS1 rfl) (Atw hT hr ho hB hp (.refl hr) (fun _ w' hw => hw.ext hr) (fun w' hw => (hw.ext hr).gs) fun σ' hr' => ?_)
      exact ih hr' h (fun _ => .inr fun w' hw => hw) (fun e => by cases e)
     | false =>
      subst hmem
      refine WD.Amj (S' := GS Z σs) (hS2 rfl) (Atw hT hr ho hB hp ⟨_, _, _, _, hr⟩ (fun e => by cases e) (fun w' hw => hw) fun σ' hr' => ?_)
      exact ih hr' h (fun e => by cases e) (fun _ w' hw => hw)
    ·split at h
     ·rename_i i' d b hp
      obtain ⟨o, ho, hB, hp⟩ := Ack hp
      obtain ⟨x, hx, h⟩ := bind_some h
      cases hmem : mem with
      | true =>
       subst hmem
       refine WD.Amj (S' := Ai0 Z σs A L s.it w) (hS1 rfl) (Av1 hr ho hB hp hx (.refl hr) fun σ' hr' => ?_)
       exact ih hr' h (fun _ => .inr fun w' hw => hw) (fun e => by cases e)
      | false =>
       subst hmem
       refine Av1 hr ho hB hp hx (hS2 rfl _ ⟨_, _, _, _, hr⟩) fun σ' hr' => ?_
       exact ih hr' h (fun e => by cases e) hS2
     ·rename_i i' d t want bv b hp
      obtain ⟨o, ho, hB, hp⟩ := Ack hp
      have h : (Bj (eqB want bv ) (Option.bind b.E fun x => Rz P T inl n mem ops fuel z (listed.setIfInBounds i' true) ((s.res t bv).set d (b.v x)) k ) <| Rz P T inl n mem ops fuel z (listed.setIfInBounds i' true) ((s.res t bv).set d .off) k) = some r := by
       cases bv with
       | true => simpa using h
       | false => simpa using h
      cases hmem : mem with
      | true =>
       subst hmem
       refine WD.Amj (S' := Ai0 Z σs A L s.it w) (hS1 rfl) (Att (X := fun s' => Rz P T inl n true ops fuel z (listed.setIfInBounds i' true) s' k) hr ho hB hp (.refl hr) h fun s' hs' σ' hr' h => ?_)
       exact ih hr' h (fun _ => .inr fun w' hw => hs' ▸ hw) (fun e => by cases e)
      | false =>
       subst hmem
       refine Att (X := fun s' => Rz P T inl n false ops fuel z (listed.setIfInBounds i' true) s' k) hr ho hB hp (hS2 rfl _ ⟨_, _, _, _, hr⟩) h fun s' hs' σ' hr' h => ?_
       exact ih hr' h (fun e => by cases e) hS2
     ·split at h
      ·rename_i i' d t j p hp
       cases hmem : mem with
       | false => rw [hmem] at hp; cases hp
       | true =>
        subst hmem
        dsimp only [Bj, cond] at hp
        obtain ⟨o, ho, hB, hp⟩ := Ak5 hp
        refine WD.Amj (S' := Ai0 Z σs A L s.it w) (hS1 rfl) (Az8 (P := P) hr ho hB hp h (.refl hr) (fun w' hw => hw.ext hr) (fun u hu => (Ak hu).1) fun u σ' hu hr' => ?_)
        exact ih hr' (Ak hu).2 (fun _ => .inr fun w' hw => hw) (fun e => by cases e)
      exact hfin h
   have all : ∀ (z : Array Bool) (S : World → Prop), (mem = true → ∀ w', Ai0 Z σs A L s.it w w' → S w') → (mem = false → ∀ w', GS Z σs w' → S w') →
     (match Ke P T n mem ops z listed s (i :: is) with
      | some (i, d, v) => Rz P T inl n mem ops fuel z (listed.setIfInBounds i true) (s.set d v) k
      | none => match Mp P n ops z listed s (i :: is) with
       | some (i, d, .on b) => Option.bind b.E fun x => Rz P T inl n mem ops fuel z (listed.setIfInBounds i true) (s.set d (b.v x)) k
       | some (i, d, .ask t want bv b) => if bv = true then
         (Bj (eqB want true ) (Option.bind b.E fun x => Rz P T inl n mem ops fuel z (listed.setIfInBounds i true) ((s.res t true).set d (b.v x)) k ) <| Rz P T inl n mem ops fuel z (listed.setIfInBounds i true) ((s.res t true).set d .off) k)
         else (Bj (eqB want false ) (Option.bind b.E fun x => Rz P T inl n mem ops fuel z (listed.setIfInBounds i true) ((s.res t false).set d (b.v x)) k ) <| Rz P T inl n mem ops fuel z (listed.setIfInBounds i true) ((s.res t false).set d .off) k)
       | none => match (Bj (mem ) (Sc n ops z listed s (i :: is) ) <| none) with
       | some (i, d, t, j, p) => getRoot (Bb s.it j) p fun u => Bj (Ff P t u ) (Rz P T inl n mem ops fuel z (listed.setIfInBounds i true) (s.set d u) k ) <| none
       | none => (fun s => Bj mem (Xb ops ((i :: is) ++ (i :: is)) s fun s => (match Ke P T n mem ops z listed s (i :: is) with
      | some (i, d, v) => Rz P T inl n mem ops fuel z (listed.setIfInBounds i true) (s.set d v) k
      | none => match Mp P n ops z listed s (i :: is) with
       | some (i, d, .on b) => Option.bind b.E fun x => Rz P T inl n mem ops fuel z (listed.setIfInBounds i true) (s.set d (b.v x)) k
       | some (i, d, .ask t want bv b) => if bv = true then
         (Bj (eqB want true ) (Option.bind b.E fun x => Rz P T inl n mem ops fuel z (listed.setIfInBounds i true) ((s.res t true).set d (b.v x)) k ) <| Rz P T inl n mem ops fuel z (listed.setIfInBounds i true) ((s.res t true).set d .off) k)
         else (Bj (eqB want false ) (Option.bind b.E fun x => Rz P T inl n mem ops fuel z (listed.setIfInBounds i true) ((s.res t false).set d (b.v x)) k ) <| Rz P T inl n mem ops fuel z (listed.setIfInBounds i true) ((s.res t false).set d .off) k)
       | none => match (Bj (mem ) (Sc n ops z listed s (i :: is) ) <| none) with
       | some (i, d, t, j, p) => getRoot (Bb s.it j) p fun u => Bj (Ff P t u ) (Rz P T inl n mem ops fuel z (listed.setIfInBounds i true) (s.set d u) k ) <| none
       | none => both (match ops[i]? with
        | some o => Bj (mem && !((nbk T s o && gOk ops s o) || (!tw z i && Qm (tw z) (listed.setIfInBounds i true))) ) (none ) <|
         Ani P T inl n ops o s fun s' => Rz P T inl n mem ops fuel z (listed.setIfInBounds i true) s' k
        | none => none) (is.map fun i => match ops[i]? with
        | some o => Bj (mem && !((nbk T s o && gOk ops s o) || (!tw z i && Qm (tw z) (listed.setIfInBounds i true))) ) (none ) <|
         Ani P T inl n ops o s fun s' => Rz P T inl n mem ops fuel z (listed.setIfInBounds i true) s' k
        | none => none))) <| both (match ops[i]? with
        | some o => Bj (mem && !((nbk T s o && gOk ops s o) || (!tw z i && Qm (tw z) (listed.setIfInBounds i true))) ) (none ) <|
         Ani P T inl n ops o s fun s' => Rz P T inl n mem ops fuel z (listed.setIfInBounds i true) s' k
        | none => none) (is.map fun i => match ops[i]? with
        | some o => Bj (mem && !((nbk T s o && gOk ops s o) || (!tw z i && Qm (tw z) (listed.setIfInBounds i true))) ) (none ) <|
         Ani P T inl n ops o s fun s' => Rz P T inl n mem ops fuel z (listed.setIfInBounds i true) s' k
        | none => none)) s) = some r → WD P n ops S (tw z) (fuel + 1) listed (fun σ' w' => ∃ s' A' L', k s' = some r ∧ Rel Z s' σs A' L' σ' w') σ w := by
    intro z S hS1 hS2 h
    refine main z S s _ hr hS1 hS2 (fun hF => ?_) h
    clear h
    cases hmem : mem with
    | false =>
     simp only [hmem, Bj] at hF
     subst hmem
     exact rest z S s hr hS1 hS2 hF
    | true =>
     simp only [hmem, Bj] at hF
     subst hmem
     obtain ⟨s', hr', hit, h'⟩ := Ac4 hr hF
     refine main z S s' _ hr' (by rw [hit]; exact hS1) hS2 (fun hG => ?_) h'
     exact rest z S s' hr' (by rw [hit]; exact hS1) hS2 hG
   cases hz : (mem && Qm (tw z0) listed) with
   | true =>
    rw [hz] at h
    simp only [Bool.and_eq_true] at hz
    obtain ⟨hm, hov⟩ := hz
    subst hm
    exact WD.next (S' := Ai0 Z σs A L s.it w) _ hov (all _ _ (fun _ w' hw => hw) (fun e => by cases e) h)
   | false =>
    rw [hz] at h
    refine all _ _ (fun hm => ?_) hI2 h
    subst hm
    rcases hI1 rfl with h1 | h1
    ·rw [h1] at hz; cases hz
    ·exact h1
end Go.Rx
set_option linter.unusedVariables false
set_option linter.unusedSimpArgs false
namespace Go.Rx
open Go Go.Lv
variable {P : Program} {B B' : Reg} {w w' : World} {L L' : List MD} {s : S} {σs : List Env} {σ : Env} {Z : Fix} {A A' : Reg} {n : Nat} {ops : Array Oper}
variable {R : Type} {k : S → Option R} {r : R}
def Ax9 (w : World) (A : Reg) (L : List Mob) (os : Nat → Option Nat) : Prop :=
 (∀ (i : Nat) (m : Mob), L[i]? = some m → m.holds (os i) w ∧ ∀ b, os i = some b → ¬ A b ∧ b < w.heap.size) ∧ ∀ i j b, i < L.length → j < L.length → i ≠ j → os i = some b → os j ≠ some b
theorem Mobs.toI : ∀ {L : List Mob} {A : Reg}, Mobs w A L → ∃ os, Ax9 w A L os
 | [], A, _ => ⟨fun _ => none, fun i m h => by simp at h, fun i j b h => by simp at h⟩
 | m :: L, A, ⟨o, h1, h2, h3⟩ => by
  obtain ⟨os, g1, g2⟩ := Mobs.toI h3
  refine ⟨fun i => match i with | 0 => o | i + 1 => os i, fun i m' h => ?_, fun i j b hi hj hij h => ?_⟩
  ·cases i with
   | zero => simp at h; subst h; exact ⟨h1, h2⟩
   | succ i =>
    obtain ⟨g3, g4⟩ := g1 i m' (by simpa using h)
    exact ⟨g3, fun b hb => ⟨fun hA => (g4 b hb).1 (.inl hA), (g4 b hb).2⟩⟩
  ·have key : ∀ q, q < L.length → ∀ b, os q = some b → o ≠ some b := fun q hq b hb ho => by
    exact ((g1 q L[q] (by simp [hq])).2 b hb).1 (.inr ho)
   cases i with
   | zero =>
    cases j with
    | zero => exact absurd rfl hij
    | succ j => intro hb; exact key j (by simpa using hj) b hb h
   | succ i =>
    cases j with
    | zero => exact key i (by simpa using hi) b h
    | succ j => exact g2 i j b (by simpa using hi) (by simpa using hj) (by omega) h
theorem Mobs.ofI : ∀ {L : List Mob} {A : Reg} {os : Nat → Option Nat}, Ax9 w A L os → Mobs w A L
 | [], _, _, _ => trivial
 | m :: L, A, os, ⟨g1, g2⟩ => by
  obtain ⟨h1, h2⟩ := g1 0 m rfl
  refine ⟨os 0, h1, h2, Mobs.ofI (os := fun i => os (i + 1)) ⟨fun i m' h => ?_, fun i j b hi hj hij h => ?_⟩⟩
  ·obtain ⟨g3, g4⟩ := g1 (i + 1) m' (by simpa using h)
   refine ⟨g3, fun b hb => ⟨fun hA => ?_, (g4 b hb).2⟩⟩
   rcases hA with hA | hA
   ·exact (g4 b hb).1 hA
   ·have hlt : i < L.length := (List.getElem?_eq_some_iff.1 h).1
    exact g2 0 (i + 1) b (by simp) (by simpa using hlt) (by omega) hA hb
  ·exact g2 (i + 1) (j + 1) b (by simpa using hi) (by simpa using hj) (by omega) h
def distinct : List Nat → Bool | [] => true | i :: r => !It i r && distinct r
theorem Ahc : ∀ {l : List Nat} {i j q : Nat}, distinct l = true → l[i]? = some q → l[j]? = some q → i = j
 | [], _, _, _, _, h, _ => by simp at h
 | a :: l, i, j, q, hd, hi, hj => by
  simp only [distinct, Bool.and_eq_true, Bool.not_eq_true'] at hd
  have hn : a ∉ l := fun h => by have := Ka.2 h; rw [hd.1] at this; cases this
  cases i with
  | zero =>
   cases j with
   | zero => rfl
   | succ j => simp at hi hj; subst hi; exact absurd (List.mem_of_getElem? hj) hn
  | succ i =>
   cases j with
   | zero => simp at hi hj; subst hj; exact absurd (List.mem_of_getElem? hi) hn
   | succ j => exact congrArg (· + 1) (Ahc (q := q) hd.2 (by simpa using hi) (by simpa using hj))
theorem Amz {w : World} : MD.dead.Dn.holds none w := ⟨none, 0, 0, rfl, by simp, Nat.le_refl _, fun _ => rfl, fun _ => rfl, fun b h => by cases h⟩
theorem getD_some {i : Nat} {md : MD} (h : L[i]? = some md) : L.getD i .dead = md := by simp [List.getD_eq_getElem?_getD, h]
theorem getD_none {i : Nat} (h : L[i]? = none) : L.getD i .dead = .dead := by simp [List.getD_eq_getElem?_getD, h]
def Aqj (o : List Nat) (L : List MD) (os : Nat → Option Nat) (j : Nat) : Option Nat := match o[j]? with | some i => (match L[i]? with | some _ => os i | none => none) | none => none
theorem Ae6 {o : List Nat} {os : Nat → Option Nat} {i j : Nat} {md : MD} (h : o[j]? = some i) (hL : L[i]? = some md) : Aqj o L os j = os i := by unfold Aqj; rw [h]; simp only [hL]
theorem Afh {o : List Nat} {os : Nat → Option Nat} {i j : Nat} (h : o[j]? = some i) (hL : L[i]? = none) : Aqj o L os j = none := by unfold Aqj; rw [h]; simp only [hL]
theorem Aoj {o : List Nat} (h : Mobs w A (L.map MD.Dn)) (hd : distinct o = true) : Mobs w A ((o.map fun i => L.getD i .dead).map MD.Dn) := by
 obtain ⟨os, g1, g2⟩ := Mobs.toI h
 refine Mobs.ofI (os := Aqj o L os) ⟨fun j m hm => ?_, fun i j b hi hj hij hb => ?_⟩
 ·simp only [List.map_map, List.getElem?_map, Option.map_eq_some_iff, Function.comp] at hm
  obtain ⟨i, hi, rfl⟩ := hm
  cases hL : L[i]? with
  | none => rw [getD_none hL, Afh hi hL]; exact ⟨Amz, fun b hb => by cases hb⟩
  | some md => rw [getD_some hL, Ae6 hi hL]; exact g1 i md.Dn (by simp [hL])
 ·simp only [List.length_map] at hi hj
  have e1 : o[i]? = some o[i] := by simp [hi]
  have e2 : o[j]? = some o[j] := by simp [hj]
  have hne : o[i] ≠ o[j] := fun e => hij (Ahc hd e1 (by rw [e2, e]))
  cases hL1 : L[o[i]]? with
  | none => rw [Afh e1 hL1] at hb; cases hb
  | some m1 =>
   rw [Ae6 e1 hL1] at hb
   cases hL2 : L[o[j]]? with
   | none => rw [Afh e2 hL2]; simp
   | some m2 =>
    rw [Ae6 e2 hL2]
    exact g2 _ _ b (by simpa using (List.getElem?_eq_some_iff.1 hL1).1) (by simpa using (List.getElem?_eq_some_iff.1 hL2).1) hne hb
theorem Ars {i : Nat} : ∀ {o : List Nat} {m j : Nat}, posOf i o m = some j → ∃ q, j = m + q ∧ o[q]? = some i
 | [], _, _, h => by simp [posOf] at h
 | a :: o, m, j, h => by
  simp only [posOf] at h
  cases hb : Nat.beq i a with
  | true => rw [hb] at h; cases h; exact ⟨0, rfl, by simp [Be hb]⟩
  | false =>
   rw [hb] at h
   obtain ⟨q, h1, h2⟩ := Ars (o := o) h
   exact ⟨q + 1, by omega, by simpa using h2⟩
theorem Ain {o : List Nat} {i j : Nat} {md : MD} (h : posOf i o 0 = some j) (hL : L[i]? = some md) : (o.map fun i => L.getD i .dead)[j]? = some md := by
 obtain ⟨q, h1, h2⟩ := Ars h
 rw [Nat.zero_add] at h1; subst h1
 simp [h2, List.getD_eq_getElem?_getD, hL]
theorem As4 {o : List Nat} {p : PV} : (ren o p).isA = p.isA := by
 cases p <;> try rfl
 ·simp only [ren]; split <;> rfl
 ·simp only [ren]; split <;> rfl
 ·simp only [ren]; split <;> rfl
abbrev Adh (L : List MD) : Prop := L.all (fun m => match m with | .own _ _ v _ => v.oneCell' | _ => true) = true
mutual
theorem Ahi {o : List Nat} (h1 : Adh L) : ∀ {p : PV} {cs : List Value}, EncC B w L p cs → EncC B w (o.map fun i => L.getD i .dead) (ren o p) cs
 | .val _ x, cs, h => h
 | .agg q, cs, h => Arb h1 (show EncC.go B w L q cs from h)
 | .tup _, _, h => h.elim
 | .nils, cs, h => h
 | .own j, cs, ⟨z, E, v, c, g1, g2⟩ => by
  simp only [ren]
  split
  ·rename_i j' hj; exact ⟨z, E, v, c, Ain hj g1, g2⟩
  ·exact ⟨v, g2, List.all_eq_true.1 h1 _ (List.mem_of_getElem? g1)⟩
 | .ptr j q, cs, ⟨md, b, g1, g2, g3⟩ => by
  simp only [ren]
  split
  ·rename_i j' hj; exact ⟨md, b, Ain hj g1, g2, g3⟩
  ·exact ⟨_, g3, rfl⟩
 | .view u j p e lo n, cs, ⟨md, v, g1, g2, g3⟩ => by
  simp only [ren]
  split
  ·rename_i j' hj; exact ⟨md, v, Ain hj g1, g2, g3⟩
  ·obtain ⟨_, _, ⟨pt, cap, e', _⟩, _⟩ := g3
   exact ⟨v, g2, by rw [e']; rfl⟩
 | .rptr v, cs, ⟨pv, c0, g1, g2, g3⟩ => ⟨pv, c0, g1, g2, Ahi h1 g3⟩
 | .fn f caps, cs, ⟨vs, g1, g2⟩ => ⟨vs, g1, All h1 g2⟩
 | .cst v, cs, h => h
 | .any, cs, h => h
 | .gd _ _ _, _, h => h.elim
 | .off, _, h => h.elim
 | .undef, _, h => h.elim
theorem Arb {o : List Nat} (h1 : Adh L) : ∀ {q : List PV} {cs : List Value}, EncC.go B w L q cs → EncC.go B w (o.map fun i => L.getD i .dead) (ren.go o q) cs
 | [], cs, h => h
 | a :: q, cs, ⟨c1, c2, e', g1, g2⟩ => ⟨c1, c2, e', Ahi h1 g1, Arb h1 g2⟩
theorem All {o : List Nat} (h1 : Adh L) : ∀ {q : List PV} {vs : List Value}, EncVs B w L q vs → EncVs B w (o.map fun i => L.getD i .dead) (ren.go o q) vs
 | [], vs, h => h
 | a :: q, vs, ⟨v, vs', e', g1, g2⟩ => ⟨v, vs', e', by rw [As4]; exact g1.mono fun c h => Ahi h1 h, All h1 g2⟩
end
theorem Aqv {o : List Nat} (h1 : Adh L) {p : PV} {v : Value} (h : Cb B w L p v) : Cb B w (o.map fun i => L.getD i .dead) (ren o p) v := by
 cases hp : p.isP with
 | true =>
  have h2 : Df B w (o.map fun i => L.getD i .dead) (ren o p) v := by
   unfold Df; rw [As4]; exact asV.mono (fun c h => Ahi h1 h) ((Aa4 hp).1 h)
  exact (Ea h2).2
 | false =>
  cases p
  case tup q => obtain ⟨vs, g1, g2⟩ := h; exact ⟨vs, g1, All h1 g2⟩
  case undef => exact (show False from h).elim
  case off => exact (show False from h).elim
  case gd => exact (show False from h).elim
  all_goals cases hp
theorem Aum {o : List Nat} (h1 : Adh L) {t : Nat} {p : PV} (h : Dj B w L σ t p) : Dj B w (o.map fun i => L.getD i .dead) σ t (ren o p) := by
 cases hv : p.isV with
 | true =>
  have g1 := Aqv (o := o) h1 ((Dj.iff hv).1 h)
  have g2 : (ren o p).isV = true := by
   cases p <;> first | rfl | cases hv | skip
   ·simp only [ren]; split <;> rfl
   ·simp only [ren]; split <;> rfl
   ·simp only [ren]; split <;> rfl
  exact (Dj.iff g2).2 g1
 | false =>
  rcases Kc hv with rfl | rfl | ⟨j, u, q, rfl⟩
  ·exact trivial
  ·exact h
  ·obtain ⟨b, g1, g2, g3⟩ := h
   exact ⟨b, g1, fun e => Aqv h1 (g2 e), g3⟩
theorem Al8 {o : List Nat} (h1 : Adh L) {sl : Slots} (h : SlotsR B w L σ sl) : SlotsR B w (o.map fun i => L.getD i .dead) σ (Ata o sl) := by
 intro p hp
 obtain ⟨q, hq, rfl⟩ := List.mem_map.1 hp
 exact Aum h1 (h q hq)
theorem Alx {o : List Nat} (h1 : Adh L) : ∀ {σs : List Env} {st : List Slots}, StackR B w L σs st → StackR B w (o.map fun i => L.getD i .dead) σs (st.map (Ata o))
 | [], [], h => h
 | _ :: _, _ :: _, ⟨g1, g2⟩ => ⟨Al8 h1 g1, Alx h1 g2⟩
theorem An8 {o : List Nat} (h1 : Adh L) {a : Item} {md : MD} (h : ItemR B w L a md) : ItemR B w (o.map fun i => L.getD i .dead) (Ayb o a) md := by
 cases a <;> cases md <;> first
  | exact h
  | exact ⟨h.1, Ahi h1 h.2⟩
theorem Uw {sl : Slots} (h : SlotsR B w L σ sl) : ∀ (lv : List Nat), SlotsR B w L σ (Adn sl lv)
 | [] => fun p hp => by simp [Adn] at hp
 | t :: lv => by
  intro p hp
  simp only [Adn] at hp
  split at hp
  ·exact Uw h lv p hp
  ·exact Uw h lv p hp
  ·exact Uw h lv p hp
  ·rcases List.mem_cons.1 hp with rfl | hp
   ·exact Gu (s := ⟨sl, [], []⟩) (t := t) h
   ·exact Uw h lv p hp
theorem Aer : ∀ {l : List Nat} {i : Nat}, distinct l = true → It i l = false → distinct (l ++ [i]) = true
 | [], _, _, _ => rfl
 | a :: l, i, hd, hi => by
  simp only [distinct, Bool.and_eq_true, Bool.not_eq_true'] at hd
  simp only [It, Bool.or_eq_false_iff] at hi
  simp only [List.cons_append, distinct, Bool.and_eq_true, Bool.not_eq_true']
  refine ⟨?_, Aer hd.2 hi.2⟩
  cases hx : It a (l ++ [i]) with
  | false => rfl
  | true =>
   rcases List.mem_append.1 (Ka.1 hx) with h | h
   ·have := Ka.2 h; rw [hd.1] at this; cases this
   ·simp at h; subst h; simp at hi
theorem Pk {it : List Item} : ∀ (q : Nat) (todo seen : List Nat), distinct seen = true → distinct (reach it q todo seen) = true
 | 0, _, _, h => h
 | _ + 1, [], _, h => h
 | q + 1, i :: todo, seen, h => by
  simp only [reach]
  cases he : It i seen with
  | true => exact Pk q _ _ h
  | false => exact Pk q _ _ (Aer h he)
theorem Avd (hr : Rel Z s σs A L σ w) (lv : List Nat) : ∃ L', Rel Z (s.canon lv) σs A L' σ w := by
 have hm := hr.mem
 have h1 : Adh L := hr.Adh
 unfold S.canon
 simp only
 generalize ho : reach s.it 200 (Aoy (Adn s.sl lv) ++ (s.st.map Aoy).flatten) [] = o
 have hd : distinct o = true := by rw [← ho]; exact Pk _ _ _ rfl
 refine ⟨o.map fun i => L.getD i .dead, ?_⟩
 have hst : St A w [Aki Z.R L s σs σ, .old Z.M Z.w0] ((o.map fun i => L.getD i .dead).map MD.Dn) := ⟨St.lt hr, St.facts hr, Aoj (St.mobs hr) hd⟩
 refine Rel.as hst (i := 1) rfl ⟨⟨by simp, fun j a m g1 g2 => ?_⟩, Al8 h1 (Uw hm.sl lv), Alx h1 hm.stk⟩ rfl
 simp only [List.getElem?_map, Option.map_eq_some_iff] at g1 g2
 obtain ⟨i, g3, rfl⟩ := g1
 obtain ⟨i', g4, rfl⟩ := g2
 rw [g3] at g4; cases g4
 cases hi : Bb s.it i with
 | dead => exact trivial
 | box T v =>
  obtain ⟨md, g5, g6⟩ := hm.item hi (by intro e; cases e)
  rw [getD_some g5]
  exact An8 h1 g6
 | arr E e l =>
  obtain ⟨md, g5, g6⟩ := hm.item hi (by intro e; cases e)
  rw [getD_some g5]
  exact An8 h1 g6
theorem Amk : ∀ {p : List Nat} {v u : PV} {cs : List Value}, atV v p = some u → EncC B w L v cs → (∃ c, EncC B w L u c) ∧ ∀ (B' : Reg) (w' : World) (L' : List MD) (m v' : PV), (∀ q c, EncC B w L q c → EncC B' w' L' q c) → (∀ c, EncC B w L u c → EncC B' w' L' m c) → m.isA = u.isA → Ar5 m v p = some v' → EncC B' w' L' v' cs ∧ v'.isA = v.isA
 | [], v, u, cs, h, hv => by
  simp only [atV, Option.some.injEq] at h; subst h
  refine ⟨⟨cs, hv⟩, fun B' w' L' m v' _ hm hA hp => ?_⟩
  simp only [Ar5, Option.some.injEq] at hp; subst hp
  exact ⟨hm _ hv, hA⟩
 | i :: p, v, u, cs, h, hv => by
  cases v <;> simp only [atV, reduceCtorEq] at h
  rename_i l
  split at h
  ·rename_i f hf
   obtain ⟨c1, c2, c3, e, h1, h2, h3⟩ := EncC.field (show EncC.go B w L l cs from hv) hf
   obtain ⟨g1, g2⟩ := Amk h h2
   refine ⟨g1, fun B' w' L' m v' hq hm hA hp => ?_⟩
   simp only [Ar5, hf] at hp
   split at hp
   ·rename_i f' hf'
    cases hp
    obtain ⟨g3, _⟩ := g2 B' w' L' m f' hq hm hA hf'
    refine ⟨?_, rfl⟩
    have hl : EncC.go B' w' L' l cs := show EncC B' w' L' (.agg l) cs from hq _ _ hv
    obtain ⟨d1, d2, d3, e', k1, k2, k3⟩ := EncC.field hl hf
    have : d2 = c2 := by
     have l1 : d1.length = c1.length := k1.trans h1.symm
     have l2 : d2.length = c2.length := k2.len.trans h2.len.symm
     rw [e] at e'
     obtain ⟨e1, e2⟩ := List.append_inj e' l1.symm
     obtain ⟨e3, _⟩ := List.append_inj e2 l2.symm
     exact e3.symm
    rw [e']
    exact k3 _ _ (by rw [this]; exact g3)
   ·cases hp
  ·cases h
theorem Art (hr : Rel Z s σs A L σ w) (E : TypeId) (e : ET) : Rel Z (s.add (.arr E e [])) σs A (L ++ [.own e.size E (.slice none 0 0) []]) σ w :=
 Rel.push (a := .arr E e []) (md := .own e.size E (.slice none 0 0) []) (St.Apq hr e.size E) ⟨rfl, rfl, rfl⟩
theorem Aly {i b : Nat} {T : TypeId} {v' : PV} {cells : List Value} (hr : Rel Z s σs A L σ w) (hL : L[i]? = some (.box b cells T)) (hv : EncC (fun b => A b ∧ Z.R b) w L v' cells) : Rel Z (s.Jl i (.box T v')) σs A L σ w := by
 have hm := hr.mem
 refine Rel.as hr (i := 1) rfl ⟨⟨by simp [S.Jl, Adc, hm.it.1], fun j a m h1 h2 => ?_⟩, hm.sl, hm.stk⟩ rfl
 simp only [S.Jl] at h1
 rcases Ac7 h1 with ⟨rfl, rfl⟩ | ⟨_, h4⟩
 ·rw [hL] at h2; cases h2; exact ⟨rfl, hv⟩
 ·exact hm.it.2 j a m h4 h2
theorem Arl {t : Nat} {m : PV} : ∀ {sl : Slots} {q : Nat} {v : PV}, (q, v) ∈ Asi t m sl → (q, v) ∈ sl ∨ (q = t ∧ v = m)
 | [], _, _, h => by simp [Asi] at h
 | (q', v') :: r, q, v, h => by
  simp only [Asi] at h
  cases hb : Nat.beq q' t with
  | true =>
   rw [hb] at h
   rcases List.mem_cons.1 h with h | h
   ·cases h; exact .inr ⟨Be hb, rfl⟩
   ·exact .inl (.tail _ h)
  | false =>
   rw [hb] at h
   rcases List.mem_cons.1 h with h | h
   ·cases h; exact .inl (.head _)
   ·exact (Arl h).imp (.tail _) id
theorem Al2 {t : Nat} {m : PV} (hr : Rel Z s σs A L σ w) (hm : Dj (fun b => A b ∧ Z.R b) w L σ t m) : Rel Z ⟨Asi t m s.sl, s.it, s.st⟩ σs A L σ w := by
 refine hr.Aty rfl rfl ?_
 rintro ⟨q, v⟩ hp
 rcases Arl hp with h | ⟨rfl, rfl⟩
 ·exact hr.mem.sl _ h
 ·exact hm
theorem Aqh {e : ET} {c : List Value} (h : EncC B w L .nils c) : EncC B w L (.val (.list e) []) c := ⟨_, [], show c = _ from h, Rd.nil, rfl⟩
theorem Axh {a : At} {s' : S} (hr : Rel Z s σs A L σ w) (h : Ayx s a = some s') : ∃ A' L', Rel Z s' σs A' L' σ w := by
 have hm := hr.mem
 unfold Ayx at h
 simp only at h
 split at h
 ·
  rename_i i q hsl
  split at h
  ·rename_i T v hi
   split at h
   ·rename_i u hu
    obtain ⟨b, cells, hL, hv⟩ := hm.box hi
    split at h
    ·rename_i E e _
     split at h
     ·rename_i v' hv'
      cases h
      obtain ⟨_, g⟩ := Amk hu hv
      have hr2 := Art hr E e
      have hL2 : (L ++ [.own e.size E (.slice none 0 0) []])[i]? = some (.box b cells T) := by rw [List.getElem?_append_left (List.getElem?_eq_some_iff.1 hL).1]; exact hL
      obtain ⟨g1, _⟩ := g (fun b => A b ∧ Z.R b) w (L ++ [.own e.size E (.slice none 0 0) []]) (.own s.new) v' (fun q c h => EncC.step (fun _ h => h) (fun _ _ => rfl) (LeL.append _ _) h)
       (fun c hc => ⟨e.size, E, _, [], by rw [S.new, hr.len]; simp, hc⟩) rfl hv'
      exact ⟨_, _, Aly hr2 hL2 g1⟩
     ·cases h
    ·cases h; exact ⟨A, L, hr⟩
    ·rename_i e _
     split at h
     ·rename_i v' hv'
      cases h
      obtain ⟨_, g⟩ := Amk hu hv
      obtain ⟨g1, _⟩ := g (fun b => A b ∧ Z.R b) w L (.val (.list e) []) v' (fun q c h => h) (fun c hc => Aqh hc) rfl hv'
      exact ⟨_, _, Aly hr hL g1⟩
     ·cases h
    ·obtain ⟨A', h1, _⟩ := Afx hr h; exact ⟨A', _, h1⟩
    ·cases h; exact ⟨A, L, hr⟩
    ·cases h
   ·cases h
  ·cases h
 split at h
 ·
  rename_i o i p e1 lo n hsl
  split at h
  ·rename_i E e _ _
   obtain ⟨hb, h⟩ := Ak h
   split at h
   ·rename_i s1 j h1
    cases h
    have hx : Cd s.sl (.tmp a.t) = .view o i p e1 lo n := by simp only [Cd, hsl]
    obtain ⟨L1, hr1, c0, hL⟩ := Aqf (x := .tmp a.t) hr (by simpa [Nat.blt_eq] using hb) (by rw [hx]; rfl) (by rw [hx]; exact h1)
    exact ⟨_, _, Al2 hr1 ⟨_, _, _, _, hL, rfl⟩⟩
   ·cases h
  ·cases h
 ·
  split at h
  ·rename_i u hu
   have hsl := Gu (t := a.t) hm.sl
   have slotR : ∀ (B' : Reg) (L' : List MD) (m v' : PV), (∀ q c, EncC (fun b => A b ∧ Z.R b) w L q c → EncC B' w L' q c) → (∀ c, EncC (fun b => A b ∧ Z.R b) w L u c → EncC B' w L' m c) → m.isA = u.isA → u = .nils → Ar5 m (Kx s.sl a.t) a.p = some v' → Dj B' w L' σ a.t v' := by
    intro B' L' m v' hq hmu hA hun hp
    have hP : (Kx s.sl a.t).isP = true := by
     revert hu
     generalize Kx s.sl a.t = x
     generalize a.p = pp
     intro hu
     cases pp with
     | nil => simp only [atV, Option.some.injEq] at hu; rw [hu, hun]; rfl
     | cons _ _ => cases x <;> first | rfl | simp [atV] at hu
    have hE : Df (fun b => A b ∧ Z.R b) w L (Kx s.sl a.t) (σ a.t) := (Aa4 hP).1 ((Dj.iff (PV.Aoa hP)).1 hsl)
    have key : Df B' w L' v' (σ a.t) := by
     unfold Df asV at hE
     split at hE
     ·rename_i hA'
      obtain ⟨cs, e1, hc⟩ := hE
      obtain ⟨_, g⟩ := Amk hu hc
      obtain ⟨g1, g2⟩ := g B' w L' m v' hq hmu hA hp
      unfold Df; rw [g2, hA']; exact ⟨cs, e1, g1⟩
     ·rename_i hA'
      obtain ⟨_, g⟩ := Amk hu hE
      obtain ⟨g1, g2⟩ := g B' w L' m v' hq hmu hA hp
      unfold Df; rw [g2, hA']; exact g1
    obtain ⟨k1, k2⟩ := Ea key
    exact (Dj.iff k1).2 k2
   split at h
   ·rename_i E e _
    split at h
    ·rename_i v' hv'
     cases h
     have hr2 := Art hr E e
     exact ⟨_, _, Al2 (s := s.add (.arr E e [])) hr2 (slotR _ _ (.own s.new) v' (fun q c h => EncC.step (fun _ h => h) (fun _ _ => rfl) (LeL.append _ _) h) (fun c hc => ⟨e.size, E, _, [], by rw [S.new, hr.len]; simp, hc⟩) rfl rfl hv')⟩
    ·cases h
   ·cases h; exact ⟨A, L, hr⟩
   ·rename_i e _
    split at h
    ·rename_i v' hv'
     cases h
     exact ⟨_, _, Al2 hr (slotR _ _ (.val (.list e) []) v' (fun q c h => h) (fun c hc => Aqh hc) rfl rfl hv')⟩
    ·cases h
   ·obtain ⟨A', h1, _⟩ := Afx hr h; exact ⟨A', _, h1⟩
   ·cases h; exact ⟨A, L, hr⟩
   ·cases h
  ·cases h
theorem As9 : ∀ {l : List At} {s s' : S} {A : Reg} {L : List MD}, Rel Z s σs A L σ w → Av7 s l = some s' → ∃ A' L', Rel Z s' σs A' L' σ w
 | [], s, s', A, L, hr, h => by simp only [Av7, Option.some.injEq] at h; subst h; exact ⟨A, L, hr⟩
 | a :: l, s, s', A, L, hr, h => by
  simp only [Av7] at h
  split at h
  ·rename_i s1 h1
   obtain ⟨A1, L1, hr1⟩ := Axh hr h1
   exact As9 hr1 h
  ·cases h
theorem Ax7 {lv : List Nat} {co : List At} {s' : S} (hr : Rel Z s σs A L σ w) (h : s.cn lv co = some s') : ∃ A' L', Rel Z s' σs A' L' σ w := by
 unfold S.cn at h
 split at h
 ·rename_i s1 h1
  cases h
  obtain ⟨A1, L1, hr1⟩ := As9 hr h1
  obtain ⟨L', hr2⟩ := Avd hr1 lv
  exact ⟨A1, L', hr2⟩
 ·cases h
end Go.Rx
set_option linter.unusedVariables false
set_option linter.unusedSimpArgs false
namespace Go.Rx
open Go Go.Lv
variable {P : Program} {B B' : Reg} {w w' : World} {L L' : List MD} {s : S} {σs : List Env} {σ : Env} {Z : Fix} {A A' : Reg} {n : Nat} {ops : Array Oper}
variable {R : Type} {r : R} {T : Tab} {inl : Inl R}
def kof (k : K R) : Exit → S → Option R
 | .normal => k.n | .exit id => k.x id | .ret => k.r | _ => fun _ => none
def QK (Z : Fix) (σs : List Env) (k : K R) (r : R) (e : Exit) (σ' : Env) (w' : World) : Prop := ∃ s' A' L', kof k e s' = some r ∧ Rel Z s' σs A' L' σ' w'
theorem As6 (an : An) {gl : List (Nat × List Value)} (hI : Abg P gl inl) : Abg P gl (Apj an inl) := by
 unfold Apj
 split
 ·intro Z hZ f as s k r σs A L σ w vs h hr ha
  exact hI Z hZ f as _ k r σs A L σ w vs h (hr.Aty rfl rfl (Uw hr.mem.sl _)) ha
 ·exact hI
theorem Ax1 (hMix : P.follows .mixedOrders = true) (hT : Ag9 P T Z) (hI : Abg P T.gl inl) : ∀ (c : Code) {an : An} {k : K R} {s : S} {A : Reg} {L : List MD} {σ : Env} {w : World}, ex P T inl n c an k s = some r → Rel Z s σs A L σ w → W P n c (QK Z σs k r) σ w := by
 intro c
 induction c with
 | skip => intro an k s A L σ w h hr; exact W.skip ⟨s, A, L, h, hr⟩
 | ret => intro an k s A L σ w h hr; exact W.ret ⟨s, A, L, h, hr⟩
 | exit id => intro an k s A L σ w h hr; exact W.exit ⟨s, A, L, h, hr⟩
 | seq a b iha ihb =>
  intro an k s A L σ w h hr
  refine W.seq (W.mono (iha (an := an.l) (k := { k with n := Au6 an fun s' => ex P T inl n b an.r k s' }) h hr) ?_)
  rintro e σ' w' ⟨s', A', L', h1, hr'⟩
  cases e with
  | normal =>
   have h2 : Au6 an (fun s' => ex P T inl n b an.r k s') s' = some r := h1
   unfold Au6 at h2
   split at h2
   ·split at h2
    ·rename_i s2 hs2
     obtain ⟨A2, L2, hr2⟩ := Ax7 hr' hs2
     exact ihb h2 hr2
    ·cases h2
   ·exact ihb h2 hr'
  | exit id => exact ⟨s', A', L', h1, hr'⟩
  | ret => exact ⟨s', A', L', h1, hr'⟩
  | goto l => exact ⟨s', A', L', h1, hr'⟩
  | panic c => exact ⟨s', A', L', h1, hr'⟩
  | outgrown => exact ⟨s', A', L', h1, hr'⟩
 | cond c a b iha ihb =>
  intro an k s A L σ w h hr
  simp only [ex] at h
  split at h
  ·rename_i t hc
   refine W.cond (Af1 hr.mem.sl hc) (fun ht => ?_) (fun ht => ?_)
   ·subst ht; exact iha (by simpa using h) hr
   ·subst ht; exact ihb (by simpa using h) hr
  ·cases h
 | block id a iha =>
  intro an k s A L σ w h hr
  refine W.block (W.mono (iha (an := an.l) (k := { k with x := fun id' s' => Bj (Nat.beq id' id ) (k.n s' ) <| k.x id' s' }) h hr) ?_)
  rintro e σ' w' ⟨s', A', L', h1, hr'⟩
  cases e with
  | exit id' =>
   have h2 : (Bj (Nat.beq id' id ) (k.n s' ) <| k.x id' s') = some r := h1
   simp only [Ao7]
   by_cases hid : id' = id
   ·rw [if_pos hid]
    subst hid
    simp at h2
    exact ⟨s', A', L', h2, hr'⟩
   ·rw [if_neg hid]
    have hb : Nat.beq id' id = false := by
     cases hb : Nat.beq id' id with
     | false => rfl
     | true => exact absurd (Be hb) hid
    rw [hb] at h2
    exact ⟨s', A', L', h2, hr'⟩
  | normal => exact ⟨s', A', L', h1, hr'⟩
  | ret => exact ⟨s', A', L', h1, hr'⟩
  | goto l => exact ⟨s', A', L', h1, hr'⟩
  | panic c => exact ⟨s', A', L', h1, hr'⟩
  | outgrown => exact ⟨s', A', L', h1, hr'⟩
 | loop a iha =>
  intro an k s A L σ w h hr
  have head : ∀ (q : Nat) (s : S) (A : Reg) (L : List MD) (σ : Env) (w : World), An0 an (iter an (fun kn s' => ex P T inl n a an.l { k with n := kn } s') q) s = some r → Rel Z s σs A L σ w →
    ∃ s' A' L', iter an (fun kn s' => ex P T inl n a an.l { k with n := kn } s') q s' = some r ∧ Rel Z s' σs A' L' σ w := by
   intro q s A L σ w h hr
   unfold An0 at h
   split at h
   ·split at h
    ·rename_i s2 hs2
     obtain ⟨A2, L2, hr2⟩ := Ax7 hr hs2
     exact ⟨s2, A2, L2, h, hr2⟩
    ·cases h
   ·cases h
  refine W.loop (fun q σ w => ∃ s A L, iter an (fun kn s' => ex P T inl n a an.l { k with n := kn } s') q s = some r ∧ Rel Z s σs A L σ w) Bh (head _ _ _ _ _ _ h hr) ?_
  rintro q σ w ⟨s, A, L, h, hr⟩
  cases q with
  | zero => cases h
  | succ q =>
   refine W.mono (iha (k := { k with n := An0 an (iter an (fun kn s' => ex P T inl n a an.l { k with n := kn } s') q) }) h hr) ?_
   rintro e σ' w' ⟨s', A', L', h1, hr'⟩
   cases e with
   | normal => exact ⟨q, Nat.lt_succ_self _, head q s' A' L' σ' w' h1 hr'⟩
   | exit id => exact ⟨s', A', L', h1, hr'⟩
   | ret => exact ⟨s', A', L', h1, hr'⟩
   | goto l => exact ⟨s', A', L', h1, hr'⟩
   | panic c => exact ⟨s', A', L', h1, hr'⟩
   | outgrown => exact ⟨s', A', L', h1, hr'⟩
 | region id ops draw =>
  intro an k s A L σ w h hr
  cases draw with
  | false =>
   obtain ⟨hd, h⟩ := Ak (show (Bj (Agv ops.toList ) (Aox P T (Apj an inl) n ops ops.toList s k.n ) <| none) = some r from h)
   have h1 := Aqd (ops := ops) hT (As6 an hI) hr (show Aox P T (Apj an inl) n ops ops.toList s k.n = some r from h)
   have hops : ops = ops.toList.toArray := by simp
   rw [hops]
   exact W.region hd (by rw [← hops]; exact h1)
  | true =>
   obtain ⟨hd, h⟩ := Ak (show (Bj (Agv ops.toList ) (Rz P T (Apj an inl) n (Aiu an) ops ops.size (Bj (Aiu an ) (#[] ) <| Array.replicate ops.size true) (Array.replicate ops.size false) s k.n ) <| none) = some r from h)
   refine W.Awm hd hMix (fun _ => True) (tw (Bj (Aiu an ) (#[] ) <| Array.replicate ops.size true)) (fun w' hw hg => ?_)
   have hr' : Rel Z s σs A L σ w' := St.Avx hr hw hg
   refine Ay3 hT (As6 an hI) hr' h (fun hm => .inl ?_) (fun _ _ _ => trivial)
   rw [hm]
   simp [Qm, tw]
 | rangeFunc => intro an k s A L σ w h hr; cases h
 | scope => intro an k s A L σ w h hr; cases h
 | label => intro an k s A L σ w h hr; cases h
 | goto => intro an k s A L σ w h hr; cases h
 | refuse => intro an k s A L σ w h hr; cases h
theorem Auw (hr : Rel Z s σs A L σ w) {v : ResultVar} {p : PV} (h : Asx P s v = some p) : ∃ u, Tr P σ w v u ∧ Df (fun b => A b ∧ Z.R b) w L p u := by
 have hm := hr.mem
 cases v with
 | tmp t =>
  obtain ⟨hp, h⟩ := Ak h
  cases h
  exact ⟨σ t, rfl, We hm.sl hp⟩
 | cell a t =>
  simp only [Asx] at h
  split at h
  ·rename_i i p' hsl
   split at h
   ·rename_i T v0 hi
    split at h
    ·rename_i u hu
     obtain ⟨hk, h⟩ := Ak h
     cases h
     have hs1 := Gu (t := a) hm.sl
     rw [hsl] at hs1
     obtain ⟨md, b, h1, h2, h3⟩ := Jb hs1
     obtain ⟨b', cells, h4, h5⟩ := hm.box hi
     rw [h4] at h1; cases h1; cases h2
     obtain ⟨c1, c2, c3, e, h6, h7⟩ := Wv hu h5
     have hok := Fz hk
     obtain ⟨d, hd, ha⟩ := hok.agg
     have hlen := h7.len
     cases hA : p.isA with
     | true =>
      refine ⟨.agg c2.toArray, Tr.cells hr (hr.Dn h4) ⟨d, hd, ha.trans hA⟩ hok.size h3 ?_ hlen, by unfold Df; rw [hA]; exact ⟨c2, rfl, h7⟩⟩
      rw [e, ← h6, ← hlen]; exact Atx rfl
     | false =>
      rw [hok.one hA] at hlen
      match c2, hlen with
      | [u], _ => exact ⟨u, Tr.cell hr (hr.Dn h4) ⟨d, hd, ha.trans hA⟩ h3 (by rw [e, ← h6]; simp), by unfold Df; rw [hA]; exact h7⟩
    ·cases h
   ·cases h
  ·cases h
theorem Aix (hr : Rel Z s σs A L σ w) : ∀ {vs : List ResultVar} {ps : List PV}, Ait P s vs = some ps → ∃ us, Abf P σ w vs us ∧ EncVs (fun b => A b ∧ Z.R b) w L ps us
 | [], ps, h => by simp only [Ait, Option.some.injEq] at h; subst h; exact ⟨[], trivial, rfl⟩
 | v :: vs, ps, h => by
  simp only [Ait] at h
  split at h
  ·rename_i p ps' hp hps
   cases h
   obtain ⟨u, h1, h2⟩ := Auw hr hp
   obtain ⟨us, h3, h4⟩ := Aix hr hps
   exact ⟨u :: us, ⟨h1, h3⟩, u, us, rfl, h2, h4⟩
  ·cases h
theorem Acu : ∀ {as : List PV} {vs : List Value} {m : Nat} {f : Nat → Value}, EncVs B w L as vs → (∀ i v, vs[i]? = some v → f (m + i) = v) → ∀ p ∈ Ks m as, Dj B w L f p.1 p.2
 | [], vs, m, f, _, _, p, hp => by simp [Ks] at hp
 | a :: as, vs, m, f, ⟨v, vs', e, h1, h2⟩, hf, p, hp => by
  subst e
  simp only [Ks] at hp
  rcases List.mem_cons.1 hp with rfl | hp
  ·obtain ⟨k1, k2⟩ := Ea (show Df B w L a v from h1)
   refine (Dj.iff k1).2 ?_
   have := hf 0 v rfl
   rw [Nat.add_zero] at this
   rw [this]; exact k2
  ·exact Acu h2 (fun i v hi => by have := hf (i + 1) v (by simpa using hi); rw [← this]; congr 1; omega) p hp
theorem Aoi {vs : List Value} {i : Nat} {v : Value} (h : vs[i]? = some v) : Alq vs i = v := by simp [Alq, List.getD_eq_getElem?_getD, h]
theorem EncVs.length : ∀ {as : List PV} {vs : List Value}, EncVs B w L as vs → vs.length = as.length
 | [], vs, h => by rw [show vs = [] from h]; rfl
 | a :: as, vs, ⟨v, vs', e, h1, h2⟩ => by rw [e, List.length_cons, EncVs.length h2]; rfl
theorem An5 {f : Nat} {an : An} : ∀ {ans : List (Nat × An)}, Vr.getAn ans f = some an → ∃ a, (f, a) ∈ ans
 | [], h => by simp [Vr.getAn] at h
 | (g, a) :: ans, h => by
  simp only [Vr.getAn] at h
  cases hb : Nat.beq g f with
  | true => have := Be hb; subst this; exact ⟨a, .head _⟩
  | false => rw [hb] at h; obtain ⟨a', h1⟩ := An5 h; exact ⟨a', .tail _ h1⟩
theorem Atd (hMix : P.follows .mixedOrders = true) (hT : Zi P T) {ans : List (Nat × An)} (hA : ∀ p ∈ ans, Ent P p.1) : ∀ (q : Nat), Abg (R := R) P T.gl (Vr P T q ans)
 | 0 => fun Z hZ f as s k r σs A L σ w vs h hr ha => by cases h
 | q + 1 => fun Z hZ f as s k r σs A L σ w vs h hr ha => by
  have hI := Atd hMix hT hA q
  unfold Vr at h
  split at h
  ·rename_i an fn han hfn
   obtain ⟨a, hmem⟩ := An5 han
   split at h
   ·cases h
   ·rename_i c hc
    obtain ⟨hle, h⟩ := Ak h
    refine ⟨hA _ hmem, ?_⟩
    have hr1 : Rel Z ⟨Ks 0 as, s.it, s.sl :: s.st⟩ (σ :: σs) A L (Alq vs) w :=
     Rel.as hr (i := 1) rfl ⟨hr.mem.it, Acu ha (fun i v hi => by rw [Nat.zero_add]; exact Aoi hi), hr.mem.sl, hr.mem.stk⟩ rfl
    refine Alh (rs := fn.results.toList) hfn hc rfl (by simp) (by rw [ha.length]; exact hle) (W.mono (Ax1 hMix ⟨hT, hZ⟩ hI c h hr1) ?_)
    rintro e σ' w' ⟨s', A', L', h1, hr'⟩
    have fin : Vr.finK P fn.results.toList k s' = some r → ∃ us, Abf P σ' w' fn.results.toList us ∧ ∃ v p s'' A'' L'', Ending.returned (packRes us) = .returned v ∧ k s'' p = some r ∧ Rel Z s'' σs A'' L'' σ w' ∧ p.isV = true ∧ Cb (fun b => A'' b ∧ Z.R b) w' L'' p v := by
     intro h1
     unfold Vr.finK at h1
     split at h1
     ·rename_i ps sl st hps hst
      obtain ⟨us, h2, h3⟩ := Aix hr' hps
      obtain ⟨h4, h5⟩ := Aq5 h3
      have hstk := hr'.mem.stk
      rw [hst] at hstk
      exact ⟨us, h2, _, _, _, A', L', rfl, h1, Rel.as hr' (i := 1) rfl ⟨hr'.mem.it, hstk.1, hstk.2⟩ rfl, h4, h5⟩
     ·cases h1
    cases e with
    | normal => exact ⟨.inr rfl, fin h1⟩
    | ret => exact ⟨.inl rfl, fin h1⟩
    | exit id => cases h1
    | goto l => cases h1
    | panic c => cases h1
    | outgrown => cases h1
  ·cases h
end Go.Rx
