/- A part of the proof of a statement of this seat (see the text that ends in Proof): RxOp0, RxOp1, RxSt, RxPath, RxOp2, RxOp3, RxOp4, RxOp5, RxOp6, RxCon, RxCall, RxU, RxBnd, RxOps, RxD, RxCut, RxMain. No conditions of its own. -/
import Derived.Test.YtneipcijjnibdaaGreatDoorCdBA
set_option linter.unusedVariables false
set_option linter.unusedSimpArgs false
namespace Go.Rx
open Go Go.Lv
variable {P : Program} {B : Reg} {w : World} {L : List MD} {s : S} {σs : List Env} {σ : Env}
abbrev Yields (P : Program) (B : Reg) (w : World) (L : List MD) (σ : Env) (W : World → Prop) (o : Op) (v : PV) : Prop := v.isV = true ∧ ∃ val, (∀ w', W w' → XO P σ w' o val) ∧ Eg B w L v val
theorem Bta {W : World → Prop} {c x y : Operand} {b : Bool} {a a' p : PV} (hc : ev σ c = .bool b) (ha : b = true → OpR B w L σ a (ev σ x)) (ha' : b = false → OpR B w L σ a' (ev σ y)) (h : Bw5 b a a' = some p) :
  Yields P B w L σ W (.pick c x y) p := by
 have key : ∀ (q : PV) (v : Value), OpR B w L σ q v → known q = some p → p.isV = true ∧ Eg B w L p v := fun q v hq hp => by
  obtain ⟨rfl, hv⟩ := Az3 hp
  exact ⟨hv, (OpR.iff hv).1 hq⟩
 cases b with
 | true =>
  obtain ⟨h1, h2⟩ := key a _ (ha rfl) h
  exact ⟨h1, _, fun w' _ => X.pick hc rfl rfl rfl, h2⟩
 | false =>
  obtain ⟨h1, h2⟩ := key a' _ (ha' rfl) h
  exact ⟨h1, _, fun w' _ => X.pick hc rfl rfl rfl, h2⟩
theorem Bmv {x : Operand} {b : Bool} (h : Bou x = some b) : ev σ x = .bool b := by
 unfold Bou at h
 split at h
 ·cases h; rfl
 ·cases h
theorem Bp5 {W : World → Prop} {c x y : Operand} {b : Bool} {a a' p : PV} {lit : Option Bool} (hc : ev σ c = .bool b) (ha : b = true → OpR B w L σ a (ev σ x)) (ha' : b = false → OpR B w L σ a' (ev σ y))
  (hl : lit = some true → Bou x = some true) (hl' : lit = some false → Bou y = some false) (h : Bk3 b lit a a' = some p) :
  Yields P B w L σ W (.pick c x y) p := by
 unfold Bk3 at h
 split at h
 ·rename_i u v
  have hu : b = true → ev σ x = .bool u := fun hb => Agd (ha hb)
  have hv : b = false → ev σ y = .bool v := fun hb => Agd (ha' hb)
  split at h
  ·have := Bmv (σ := σ) (hl rfl)
   cases h
   refine ⟨rfl, .bool (b || v), fun w' _ => X.pick hc rfl rfl ?_, rfl⟩
   cases b with
   | true => simpa using this
   | false => simpa using hv rfl
  ·have := Bmv (σ := σ) (hl' rfl)
   cases h
   refine ⟨rfl, .bool (b && u), fun w' _ => X.pick hc rfl rfl ?_, rfl⟩
   cases b with
   | true => simpa using hu rfl
   | false => simpa using this
  ·cases h
   refine ⟨rfl, .bool (Ch (b ) (u ) <| v), fun w' _ => X.pick hc rfl rfl ?_, rfl⟩
   cases b with
   | true => simpa using hu rfl
   | false => simpa using hv rfl
 ·rename_i e u e' v _
  split at h
  ·rename_i he
   subst he
   cases h
   refine ⟨rfl, if b then ev σ x else ev σ y, fun w' _ => X.pick hc rfl rfl rfl, ?_⟩
   cases b with
   | true => simpa using (show Eg B w L (.val e' u) (ev σ x) from ha rfl)
   | false => simpa using (show Eg B w L (.val e' v) (ev σ y) from ha' rfl)
  ·cases h
 ·cases h
theorem Bbi {t : TypeId} {f off z : Nat} (h : fieldInfo P t f = some (off, z)) (hz : Nat.beq z 0 = false) : Atc P t f off :=
 Atc.mk h (by intro e; subst e; cases hz)
theorem Bk1 {l : List PV} {f off : Nat} {u : PV} {v : Value} (h : Eg B w L (.rptr (.agg l)) v) (hl : l[f]? = some u) (ho : Bal l f = off) :
  ∃ b o, v = .pointer (some ⟨b, o, none⟩) ∧ Eg B w L (.rptr u) (.pointer (some ⟨b, o + off, none⟩)) := by
 obtain ⟨c0, ⟨b, o, arr, T, fr, rfl, h2, h3, h4⟩, h5⟩ := Aw5 h
 obtain ⟨c1, c2, c3, e, h6, h7, _⟩ := EncC.field (show EncC.go B w L l c0 from h5) hl
 refine ⟨b, o, rfl, _, c2, rfl, ⟨b, o + off, arr, T, fr, rfl, h2, h3, fun i hi => ?_⟩, h7⟩
 have := h4 (off + i) (by rw [e]; simp; omega)
 rw [Nat.add_assoc, this, e, List.getElem?_append_right (by omega), h6, ho]
 rw [show off + i - off = i by omega, List.getElem?_append_left hi]
theorem Bv8 {o : BinOp} {q : Bool} {k k' : Kd} {a : k.T} {c : k'.T} {v : PV} {t : TypeId} (h : Bxl o q k a k' c = some v) :
  v.isV = true ∧ ∃ val, Ke P o t (iv (T := k.T) (k := k.k) a) (iv (T := k'.T) (k := k'.k) c) val ∧ Eg B w L v val := by
 unfold Bxl at h
 cases hd : Bzr o with
 | true =>
  rw [hd] at h
  cases q with
  | true =>
   try dsimp only [Ch, cond] at h
   split at h
   ·rename_i hc; exact Ayx h hc
   ·cases h
  | false =>
   try dsimp only [Ch, cond] at h
   cases hb : (k'.isU && Byq o) with
   | true =>
    rw [hb] at h
    simp only [Bool.and_eq_true] at hb
    refine Ayx h ?_
    have h1 := hb.2
    have h2 := hb.1
    cases o <;> simp [Byq] at h1 <;> simp [Bph, h2]
   | false => rw [hb] at h; cases h
 | false =>
  rw [hd] at h
  try dsimp only [Ch, cond] at h
  split at h
  ·rename_i hk
   subst hk
   exact Br2 h
  ·cases h
theorem Blo (W : World → Prop) (hm : SlotsR B w L σ s.sl) {o : Op} {v : PV} (h : op0 P s o = some v) : Yields P B w L σ W o v := by
 unfold op0 at h
 split at h
 ·
  rename_i x
  have hx := Ao2 hm x
  obtain ⟨h1, hv⟩ := Az3 (show known (Ej s.sl x) = some v from h)
  rw [h1] at hx
  exact ⟨hv, _, fun w' _ => X.move rfl, (OpR.iff hv).1 hx⟩
 ·rename_i x
  have hx := Ao2 hm x
  obtain ⟨h1, hv⟩ := Az3 (show known (Ej s.sl x) = some v from h)
  rw [h1] at hx
  exact ⟨hv, _, fun w' _ => X.assign rfl, (OpR.iff hv).1 hx⟩
 ·
  rename_i o t x y t'
  split at h
  ·rename_i k a k' c hx hy
   have ex := Abo hm hx
   have ey := Abo hm hy
   obtain ⟨hv, val, hb, hr⟩ := Bv8 (P := P) (B := B) (w := w) (L := L) (t := t) h
   exact ⟨hv, val, fun w' _ => X.bin ex ey hb, hr⟩
  ·rename_i a c hx hy
   have ex := Avz hm hx
   have ey := Avz hm hy
   split at h
   ·rename_i hu
    split at h
    ·cases h; exact ⟨rfl, _, fun w' _ => X.bin ex ey (Bin.Btv hu _ _), rfl⟩
    ·cases h; exact ⟨rfl, _, fun w' _ => X.bin ex ey (Bin.Bqs hu _ _), rfl⟩
    ·cases h
   ·cases h
  ·rename_i a c hx hy
   have ex := Xo hm hx
   have ey := Xo hm hy
   split at h
   ·cases h; exact ⟨rfl, _, fun w' _ => X.bin ex ey (Bin.Bvk _ _), rfl⟩
   ·cases h; exact ⟨rfl, _, fun w' _ => X.bin ex ey (Bin.Bv4 _ _), rfl⟩
   ·cases h
  ·obtain ⟨b, rfl, hb⟩ := Buf (t' := t') hm h
   exact ⟨rfl, _, fun w' _ => hb w', rfl⟩
 ·
  rename_i o t x
  split at h
  ·rename_i k a hx
   have ex := Abo hm hx
   split at h
   ·cases h; exact ⟨rfl, _, fun w' _ => X.neg ex, rfl⟩
   ·cases h; exact ⟨rfl, _, fun w' _ => X.Bzp ex, rfl⟩
   ·cases h
  ·rename_i a hx
   have ex := Avz hm hx
   split at h
   ·cases h; exact ⟨rfl, _, fun w' _ => X.not ex, rfl⟩
   ·cases h
  ·cases h
 ·
  rename_i c a b
  split at h
  ·rename_i t x hx
   have hs := Vk (t := t) hm
   rw [hx] at hs
   have hc : σ t = .bool x := by have : [σ t] = [Value.bool x] := hs.1; simpa using this
   exact Bta hc (fun e => Ay0 (by rw [hc, e]) (Ao2 hm a)) (fun e => Ay0 (by rw [hc, e]) (Ao2 hm b)) h
  ·rename_i t x hx
   have hs := Vk (t := t) hm
   rw [hx] at hs
   have hc : σ t = .bool x := Agd hs
   refine Bp5 hc (fun e => Ay0 (by rw [hc, e]) (Ao2 hm a)) (fun e => Ay0 (by rw [hc, e]) (Ao2 hm b)) (fun e => ?_) (fun e => ?_) h
   ·split at e
    ·rename_i hl; exact hl
    ·split at e <;> cases e
   ·split at e
    ·cases e
    ·split at e
     ·rename_i hl; exact hl
     ·cases e
  ·cases h
 ·
  rename_i x i
  split at h
  ·rename_i l hx
   obtain ⟨vs, e1, h1⟩ := Cr hm hx rfl
   obtain ⟨val, h2, h3⟩ := EncVs.get h1 h
   obtain ⟨h4, h5⟩ := Kk h3
   exact ⟨h4, val, fun w' _ => X.extract e1 h2, h5⟩
  ·cases h
 ·
  rename_i a t x
  split at h
  ·rename_i k u k' d hx ht ha
   have ex := Abo hm hx
   split at h
   ·rename_i kd hk
    have hk' := Bw4 hk
    subst hk'
    cases h
    exact ⟨rfl, _, fun w' _ => X.conv (T' := kd.T) ha ht ex, rfl⟩
   ·cases h
  ·cases h
 ·
  rename_i f fs cs
  split at h
  ·rename_i hfs
   have hf := Af0 hfs
   subst hf
   cases ha : Bjz (cs.toList.map (Ej s.sl)) with
   | true =>
    rw [ha] at h
    cases h
    refine ⟨rfl, _, fun w' _ => ?_, ⟨_, rfl, Ayp hm _ ha⟩⟩
    have := X.makeFunc (P := P) (σ := σ) (w := w') (f := f) (cap := cs.toList) (vs := cs.toList.map (ev σ)) rfl
    simpa using this
   | false => rw [ha] at h; cases h
  ·cases h
 ·
  rename_i x
  split at h
  ·rename_i i p hx
   cases h
   have hr := Cr hm hx rfl
   obtain ⟨md, b, h1, h2, h3⟩ := Aa8 hr
   exact ⟨rfl, _, fun w' _ => X.nilCheck h3, Ah3 h1 h2⟩
  ·rename_i u hx
   cases h
   have hr := Cr hm hx rfl
   obtain ⟨c0, ⟨b, off, arr, T, fr, h1, h2⟩, h3⟩ := Aw5 hr
   exact ⟨rfl, _, fun w' _ => X.nilCheck h1, by rw [← h1]; exact hr⟩
  ·cases h
 ·
  rename_i t x f
  split at h
  ·rename_i i p off z hx hf
   cases hz : Nat.beq z 0 with
   | true => rw [hz] at h; cases h
   | false =>
    rw [hz] at h
    cases h
    obtain ⟨md, b, h1, h2, h3⟩ := Aa8 (Cr hm hx rfl)
    refine ⟨rfl, _, fun w' _ => X.fieldAddr (off' := Ar (p ++ [.fld f off])) (Bbi hf hz) h3 ?_, Ah3 h1 h2⟩
    rw [Ak9]; rfl
  ·rename_i l off z hx hf
   split at h
   ·rename_i u hl
    cases hz : (!Nat.beq z 0 && Nat.beq (Bal l f) off) with
    | true =>
     rw [hz] at h
     cases h
     simp only [Bool.and_eq_true, Bool.not_eq_true'] at hz
     obtain ⟨b, o, h1, h2⟩ := Bk1 (Cr hm hx rfl) hl (Nat.eq_of_beq_eq_true hz.2)
     exact ⟨rfl, _, fun w' _ => X.fieldAddr (Bbi hf hz.1) h1 rfl, h2⟩
    | false => rw [hz] at h; cases h
   ·cases h
  ·cases h
 ·
  rename_i as ts
  split at h
  ·rename_i x y ha
   have := Af0 ha
   subst this
   split at h
   ·rename_i k a k' c hx hy
    split at h
    ·rename_i hk
     subst hk
     cases h
     exact ⟨rfl, _, fun w' _ => X.min (Abo hm hx) (Abo hm hy), rfl⟩
    ·cases h
   ·cases h
  ·cases h
 ·rename_i as ts
  split at h
  ·rename_i x y ha
   have := Af0 ha
   subst this
   split at h
   ·rename_i k a k' c hx hy
    split at h
    ·rename_i hk
     subst hk
     cases h
     exact ⟨rfl, _, fun w' _ => X.max (Abo hm hx) (Abo hm hy), rfl⟩
    ·cases h
   ·cases h
  ·cases h
 ·cases h
end Go.Rx
set_option linter.unusedVariables false
set_option linter.unusedSimpArgs false
namespace Go.Rx
open Go Go.Lv
variable {P : Program} {B : Reg} {w : World} {L : List MD} {s : S} {σs : List Env} {σ : Env} {Z : Fix} {A : Reg}
theorem Aur : ∀ {it : List Item} {i : Nat} {a : Item}, Cc it i = a → a ≠ .dead → it[i]? = some a
 | [], _, a, h, hd => absurd h.symm (by simpa [Cc] using hd)
 | b :: r, 0, a, h, _ => by simpa [Cc] using h
 | b :: r, i + 1, a, h, hd => by simpa using Aur (it := r) (by simpa [Cc] using h) hd
theorem MemR.item (hm : MemR B w L s σs σ) {i : Nat} {a : Item} (h : Cc s.it i = a) (hd : a ≠ .dead) : ∃ md, L[i]? = some md ∧ ItemR B w L a md := by
 have h1 := Aur h hd
 have hl : i < L.length := by rw [← hm.it.1]; exact (List.getElem?_eq_some_iff.1 h1).1
 exact ⟨L[i], by simp [hl], hm.it.2 i a _ h1 (by simp [hl])⟩
theorem MemR.box (hm : MemR B w L s σs σ) {i : Nat} {T : TypeId} {v : PV} (h : Cc s.it i = .box T v) : ∃ b cells, L[i]? = some (.box b cells T) ∧ EncC B w L v cells := by
 obtain ⟨md, h1, h2⟩ := hm.item h (by intro e; cases e)
 cases md with
 | dead => exact h2.elim
 | box b cells T' => obtain ⟨rfl, h3⟩ := h2; exact ⟨b, cells, h1, h3⟩
 | own _ _ _ _ => exact h2.elim
theorem MemR.arr (hm : MemR B w L s σs σ) {i : Nat} {E : TypeId} {e : ET} {l : List e.T} (h : Cc s.it i = .arr E e l) : ∃ v cs, L[i]? = some (.own e.size E v cs) ∧ Bt (Ax B w e) l cs := by
 obtain ⟨md, h1, h2⟩ := hm.item h (by intro e; cases e)
 cases md with
 | dead => exact h2.elim
 | box b cells T' => exact h2.elim
 | own z E' v cs => obtain ⟨rfl, rfl, h3⟩ := h2; exact ⟨v, cs, h1, h3⟩
theorem Rel.Jv (hr : Rel Z s σs A L σ w) {i : Nat} {md : MD} (h : L[i]? = some md) : (L.map MD.Jv)[i]? = some md.Jv := by simp [h]
structure Ext (Z : Fix) (s : S) (σs : List Env) (A : Reg) (L : List MD) (σ : Env) (w w' : World) : Prop where
 ex : ∃ (A' : Reg) (L' : List MD) (it' : List Item), (∀ b, A b → A' b) ∧ Rel Z ⟨s.sl, s.it ++ it', s.st⟩ σs A' (L ++ L') σ w'
 same : Same A w w'
theorem Ext.refl (hr : Rel Z s σs A L σ w) : Ext Z s σs A L σ w w := ⟨⟨A, [], [], fun _ h => h, by simpa using hr⟩, fun _ _ => rfl⟩
theorem Bl9 {c1 c2 c3 : List Value} {o : Nat} (h : c1.length = o) : ((c1 ++ (c2 ++ c3)).drop o).take c2.length = c2 := by
 subst h; simp
theorem Aoq : ∀ {p : List Step} {v u : PV} {cs : List Value}, Ayj v p = some u → EncC B w L v cs → ∃ c1 c2 c3, cs = c1 ++ (c2 ++ c3) ∧ c1.length = Ar p ∧ EncC B w L u c2
 | [], v, u, cs, h, hv => by simp only [Ayj, Option.some.injEq] at h; subst h; exact ⟨[], cs, [], by simp, rfl, hv⟩
 | .fld n off :: r, v, u, cs, h, hv => by
  cases v <;> simp only [Ayj, reduceCtorEq] at h
  rename_i l
  split at h
  ·rename_i f hf
   cases hb : Nat.beq (Bal l n) off with
   | false => rw [hb] at h; cases h
   | true =>
    rw [hb] at h
    obtain ⟨c1, c2, c3, e, h1, h2, _⟩ := EncC.field (show EncC.go B w L l cs from hv) hf
    obtain ⟨d1, d2, d3, e', h3, h4⟩ := Aoq h h2
    refine ⟨c1 ++ d1, d2, d3 ++ c3, by rw [e, e']; simp, ?_, h4⟩
    rw [List.length_append, h1, h3, Nat.eq_of_beq_eq_true hb]; rfl
  ·cases h
 | .idx j z :: r, v, u, cs, h, hv => by cases v <;> simp [Ayj] at h
theorem Bsg {t T : TypeId} {u : PV} {x : Operand} {b : Nat} {c1 c2 c3 : List Value} {F : List Fact} {LL : List Mob} {w' : World} (h : OkLoad P t u) (hu : EncC B w L u c2) :
  ∃ val, Iw B w L u val ∧ ∀ (A' : Reg) (F : List Fact) (LL : List Mob) (w' : World) (i : Nat), St A' w' F LL → LL[i]? = some (.box b (c1 ++ (c2 ++ c3)) T) → ev σ x = .pointer (some ⟨b, c1.length, none⟩) → XO P σ w' (.load t x) val := by
 obtain ⟨d, hd, ha⟩ := h.agg
 have hlen := hu.len
 cases hA : u.isA with
 | true =>
  refine ⟨.agg c2.toArray, by unfold Iw; rw [hA]; exact ⟨c2, rfl, hu⟩, fun A' F LL w' i hs hL hx => ?_⟩
  exact X.Bpj hs hL ⟨d, hd, ha.trans hA⟩ h.size hx (by rw [← hlen]; exact Bl9 rfl) hlen
 | false =>
  have h1 := h.one hA
  rw [h1] at hlen
  match c2, hlen with
  | [v], _ =>
   refine ⟨v, by unfold Iw; rw [hA]; exact hu, fun A' F LL w' i hs hL hx => ?_⟩
   exact X.Btl hs hL ⟨d, hd, ha.trans hA⟩ hx (by simp)
theorem Bu0 {t : TypeId} {u : PV} {x : Operand} {c2 : List Value} {v : Value} (h : OkLoad P t u) (hu : EncC B w L u c2) (hp : Be4 B w v c2) (hx : ev σ x = v) :
  ∃ val, Iw B w L u val ∧ ∀ w', Same B w w' → XO P σ w' (.load t x) val := by
 obtain ⟨d, hd, ha⟩ := h.agg
 have hlen := hu.len
 obtain ⟨b, off, arr, T, fr, rfl, hB, hb, hc⟩ := hp
 have hcell : ∀ w', Same B w w' → ∀ k, k < c2.length → w'.cell? ⟨b, off + k, none⟩ = c2[k]? := fun w' hs k hk => by
  rw [cell_of ((hs b hB).trans hb)]; exact hc k hk
 cases hA : u.isA with
 | true =>
  refine ⟨.agg c2.toArray, by unfold Iw; rw [hA]; exact ⟨c2, rfl, hu⟩, fun w' hs _ _ _ _ _ => ?_⟩
  have h1 := Mm (P := P) (w := w') (b := b) (off := off) c2 (hcell w' hs)
  rw [hlen] at h1
  simp only [execOp, hx, Instr.loadAt, Instr.sureAddr, Sem.run_bind, Sem.run_pure, Result.andThen_ok, loadVar, Ee hd (ha.trans hA), if_true, Bj h.size, h1]
 | false =>
  have h1 := h.one hA
  rw [h1] at hlen
  match c2, hlen with
  | [v], _ =>
   refine ⟨v, by unfold Iw; rw [hA]; exact hu, fun w' hs _ _ _ _ _ => ?_⟩
   have h2 : w'.cell? ⟨b, off, none⟩ = some v := by simpa using hcell w' hs 0 (by simp)
   simp only [execOp, hx, Instr.loadAt, Instr.sureAddr, Sem.run_bind, Sem.run_pure, Result.andThen_ok, loadVar, Ee hd (ha.trans hA), Bool.false_eq_true, if_false, Ag1 h2]
theorem Bt.Ae2 {k : Kd} : ∀ {l : List k.T} {cs : List Value}, Bt (Ax B w (.int k)) l cs → cs = Go.Lv.Ae2 (k := k.k) l
 | [], _, h => h
 | x :: l, _, ⟨c1, c2, e, h1, h2⟩ => by rw [e, show c1 = _ from h1, Bt.Ae2 h2]; rfl
theorem Bt.nil {α : Type} {f : α → List Value → Prop} : Bt f [] [] := rfl
theorem Bt.take {α : Type} {f : α → List Value → Prop} {z : Nat} (hz : ∀ x c, f x c → c.length = z) : ∀ {l : List α} {cs : List Value} (k : Nat), Bt f l cs → Bt f (l.take k) (cs.take (k * z))
 | [], cs, k, h => by rw [show cs = [] from h]; simp [Bt]
 | a :: l, cs, 0, _ => by simp [Bt]
 | a :: l, cs, k + 1, ⟨c1, c2, e, h1, h2⟩ => by
  subst e
  refine ⟨c1, c2.take (k * z), ?_, h1, Bt.take hz k h2⟩
  have : (k + 1) * z = c1.length + k * z := by rw [hz _ _ h1, Nat.succ_mul]; omega
  rw [this, List.take_length_add_append]
theorem Bt.drop {α : Type} {f : α → List Value → Prop} {z : Nat} (hz : ∀ x c, f x c → c.length = z) : ∀ {l : List α} {cs : List Value} (k : Nat), Bt f l cs → Bt f (l.drop k) (cs.drop (k * z))
 | [], cs, k, h => by rw [show cs = [] from h]; simp [Bt]
 | a :: l, cs, 0, h => by simpa using h
 | a :: l, cs, k + 1, ⟨c1, c2, e, h1, h2⟩ => by
  subst e
  have : (k + 1) * z = c1.length + k * z := by rw [hz _ _ h1, Nat.succ_mul]; omega
  have h3 : (c1 ++ c2).drop (c1.length + k * z) = c2.drop (k * z) := by simp [List.drop_append]
  rw [this, h3]
  exact Bt.drop hz k h2
theorem Rd.part {z : Nat} {E : TypeId} {u v : Value} {cs : List Value} {p : List Step} {lo n : Int} (hv : Bj1 true (.own z E u cs) p z lo n v) (h : Rd B w z u cs) : Rd B w z v ((cs.drop (lo.toNat * z)).take (n.toNat * z)) := by
 obtain ⟨h1, h2, ⟨pt, cap, rfl, h4, h5, h6⟩, h7, _⟩ := hv
 obtain ⟨s', E', q, len, cap0, c0, e0, rfl, g2, g3, _⟩ := h7 rfl
 cases e0
 obtain ⟨q', len', cap', e1, k1, k2, k3, k4⟩ := h
 cases e1
 have k5 := g3 _ _ _ rfl
 have e5 : lo.toNat * z + n.toNat * z ≤ len * z := by rw [← Nat.add_mul]; exact Nat.mul_le_mul_right z g2
 refine ⟨pt, n.toNat, cap, rfl, ?_, h4, h5, fun hc => ?_⟩
 ·rw [List.length_take, List.length_drop, k1]; omega
 ·obtain ⟨b, e2, e3⟩ := h6 hc
  obtain ⟨b', off, arr, T, fr, e4, m1, m2, m3, m4⟩ := k4 (by omega)
  subst e4
  have e6 : b' = b ∧ off = 0 := by
   unfold MD.base at e2
   split at e2
   ·rename_i heq; cases heq
   ·rename_i heq; cases heq; cases e2; exact ⟨rfl, rfl⟩
   ·cases e2
  obtain ⟨rfl, rfl⟩ := e6
  refine ⟨b', lo.toNat * z, arr, T, fr, by rw [e3]; simp [Ar], m1, m2, ?_, fun i hi => ?_⟩
  ·have : lo.toNat * z + cap * z ≤ cap0 * z := by rw [← Nat.add_mul]; exact Nat.mul_le_mul_right z k5
   omega
  ·have := m4 (lo.toNat * z + i) (by omega)
   rw [Nat.zero_add] at this
   rw [this, List.getElem?_take, if_pos hi, List.getElem?_drop]
theorem Au1 {e : ET} {p : PV} {l : List e.T} {v : Value} (hm : MemR B w L s σs σ) (h : elems s e p = some l) (hv : Eg B w L p v) :
  ∃ c0, Bt (Ax B w e) l c0 ∧ ((Rd B w e.size v c0) ∨ (∃ i E u cs, i ∈ owns p ∧ L[i]? = some (.own e.size E u cs) ∧ ∀ (B : Reg) (w : World), Rd B w e.size u cs → Rd B w e.size v c0)) := by
 unfold elems at h
 split at h
 ·rename_i e' x
  split at h
  ·rename_i a l'
   split at h
   ·rename_i ha
    subst ha
    cases h
    obtain ⟨c0, h1, h2⟩ := Acf hv
    exact ⟨c0, h2, .inl h1⟩
   ·cases h
  ·cases h
 ·cases h
  rw [Agf hv]
  exact ⟨[], rfl, .inl Rd.nil⟩
 ·rename_i i
  split at h
  ·rename_i E a l' hi
   split at h
   ·rename_i ha
    subst ha
    cases h
    obtain ⟨v', cs, h1, h2⟩ := hm.arr hi
    obtain ⟨z, E', c', h3⟩ := Ahm hv
    rw [h1] at h3; cases h3
    exact ⟨cs, h2, .inr ⟨i, E, _, cs, .head _, h1, fun _ _ h => h⟩⟩
   ·cases h
  ·cases h
 ·rename_i i p e1 lo n
  split at h
  ·rename_i E a l' hi
   split at h
   ·rename_i ha
    subst ha
    cases he : decide (e1 = a) with
    | false => rw [he] at h; cases h
    | true =>
     rw [he] at h
     cases h
     have := of_decide_eq_true he
     subst this
     obtain ⟨v', cs, h1, h2⟩ := hm.arr hi
     obtain ⟨md, v1, h3, h4, h5⟩ := hv
     rw [h1] at h3; cases h3
     have h6 : v = v1 := by simpa using h4
     subst h6
     exact ⟨_, Bt.take (fun x c h => Ax.len h) _ (Bt.drop (fun x c h => Ax.len h) _ h2), .inr ⟨i, E, v', cs, .head _, h1, fun _ _ h => Rd.part h5 h⟩⟩
   ·cases h
  ·cases h
 ·cases h
theorem Rd.slice {z : Nat} {v : Value} {cs : List Value} (h : Rd B w z v cs) (hz : 0 < z) : ∃ p len cap, v = .slice p len cap ∧ cs.length = len * z := by
 obtain ⟨p, len, cap, h1, h2, _⟩ := h; exact ⟨p, len, cap, h1, h2⟩
theorem Bs5 {t e' : TypeId} {e : ET} {x : Operand} {p : Option Addr} {len cap : Nat} {l : List e.T} {cs : List Value} (ht : P.underlying t = some (.slice e')) (hz : Nat.beq e.size 0 = false) (hc : Bt (Ax B w e) l cs)
  (hl : cs.length = len * e.size) (hx : ev σ x = .slice p len cap) : ∀ w', XO P σ w' (.call ⟨.builtin .len, #[x], #[t]⟩) (iv (Ac l)) := by
 have h1 := hc.len fun x c h => Ax.len h
 have hp : 0 < e.size := by
  rcases Nat.eq_zero_or_pos e.size with h | h
  ·rw [h] at hz; cases hz
  ·exact h
 have : len = l.length := Nat.eq_of_mul_eq_mul_right hp (hl.symm.trans h1)
 subst this
 intro w'
 exact X.Awo ht hx
theorem Rel.Yh (hr : Rel Z s σs A L σ w) {i z : Nat} {E : TypeId} {v : Value} {cs : List Value} (h : L[i]? = some (.own z E v cs)) : Rd (fun _ => True) w z v cs :=
 St.Yh (E := E) hr (j := i) (hr.Jv h)
theorem Bl7 (hr : Rel Z s σs A L σ w) {o : Op} {v : PV} (h : op1 P s o = some v) : Yields P (fun b => A b ∧ Z.R b) w L σ (Ext Z s σs A L σ w) o v := by
 have hm := hr.mem
 have hS : ∀ w', Ext Z s σs A L σ w w' → Same (fun b => A b ∧ Z.R b) w w' := fun w' he b hb => he.same b hb.1
 unfold op1 at h
 split at h
 ·
  rename_i t x
  split at h
  ·rename_i i p hx
   obtain ⟨md, b, h1, h2, h3⟩ := Aa8 (Cr hm.sl hx rfl)
   split at h
   ·rename_i T v0 hi
    split at h
    ·rename_i u hu
     cases hk : Om P t u with
     | false => rw [hk] at h; cases h
     | true =>
      rw [hk] at h; cases h
      obtain ⟨b', cells, h4, h5⟩ := hm.box hi
      rw [h4] at h1; cases h1
      cases h2
      obtain ⟨c1, c2, c3, e, h6, h7⟩ := Aoq hu h5
      obtain ⟨val, h8, h9⟩ := Bsg (σ := σ) (x := x) (b := b) (T := T) (c1 := c1) (c3 := c3) (F := []) (LL := []) (w' := w) (Rz hk) h7
      obtain ⟨hv, hv'⟩ := Kk h8
      refine ⟨hv, val, fun w' he => ?_, hv'⟩
      obtain ⟨A', L', it', ha, hr'⟩ := he.ex
      have h10 : (L ++ L')[i]? = some (.box b cells T) := by rw [List.getElem?_append_left (List.getElem?_eq_some_iff.1 h4).1]; exact h4
      exact h9 A' _ _ w' i hr' (by rw [hr'.Jv h10, ← e]; rfl) (by rw [h3, h6])
    ·cases h
   ·cases h
  ·rename_i u hx
   cases hk : Om P t u with
   | false => rw [hk] at h; cases h
   | true =>
    rw [hk] at h; cases h
    obtain ⟨c0, h1, h2⟩ := Aw5 (Cr hm.sl hx rfl)
    obtain ⟨val, h3, h4⟩ := Bu0 (P := P) (Rz hk) h2 h1 rfl
    obtain ⟨hv, hv'⟩ := Kk h3
    exact ⟨hv, val, fun w' he => h4 w' (hS w' he), hv'⟩
  ·cases h
 ·
  rename_i a t x
  split at h
  ·rename_i ht
   split at h
   ·rename_i e ha
    split at h
    ·rename_i he
     cases hel : elems s (.int .u8) (Ej s.sl x) with
     | none => rw [hel] at h; cases h
     | some l =>
      rw [hel] at h; cases h
      have hx := Ao2 hm.sl x
      have hV : (Ej s.sl x).isV = true := by
       cases hq : (Ej s.sl x).isV with
       | true => rfl
       | false => rcases Acm hq with h | h | ⟨_, _, _, h⟩ <;> rw [h] at hel <;> cases hel
      obtain ⟨c0, h1, h2⟩ := Au1 hm hel ((OpR.iff hV).1 hx)
      have h3 := Bt.Ae2 (k := .u8) h1
      subst h3
      refine ⟨rfl, sv l, fun w' hext => ?_, rfl⟩
      rcases h2 with h2 | ⟨i, E, u, cs, _, h2, hpart⟩
      ·exact X.b2s (l := l) ha he ht (h2.step (fun _ h => h) (hS w' hext)) rfl
      ·obtain ⟨A', L', it', ha', hr'⟩ := hext.ex
       have h4 : (L ++ L')[i]? = some (.own 1 E u cs) := by rw [List.getElem?_append_left (List.getElem?_eq_some_iff.1 h2).1]; exact h2
       exact X.b2s (l := l) ha he ht (hpart _ _ (hr'.Yh h4)) rfl
    ·cases h
   ·cases h
  ·cases h
 ·
  rename_i as ts
  split at h
  ·rename_i x t has hts
   have h1 := Af0 has
   have h2 := Af0 hts
   subst h1 h2
   split at h
   ·rename_i ht
    split at h
    ·rename_i l hx
     cases h
     exact ⟨rfl, _, fun w' _ => X.Bvs ht (Xo hm.sl hx), rfl⟩
    ·cases h
   ·rename_i e' ht
    split at h
    ·rename_i e l hx
     cases hz : Nat.beq e.size 0 with
     | true => rw [hz] at h; cases h
     | false =>
      rw [hz] at h; cases h
      obtain ⟨c0, h3, h4⟩ := Acf (Cr hm.sl hx rfl)
      obtain ⟨p, len, cap, h5, h6, _⟩ := h3
      exact ⟨rfl, _, fun w' _ => Bs5 ht hz h4 h6 h5 w', rfl⟩
    ·rename_i hx
     cases h
     have h3 := Agf (Cr hm.sl hx rfl)
     exact ⟨rfl, _, fun w' _ => X.Awo ht h3, rfl⟩
    ·rename_i o i p e n lo hx
     cases h
     obtain ⟨md, v1, h3, h4, h5⟩ := Cr hm.sl hx rfl
     obtain ⟨k1, k2, ⟨pt, cap, k3, _⟩, _⟩ := h5
     have h6 : ev σ x = v1 := by simpa using h4
     refine ⟨rfl, _, fun w' _ => X.Awo ht (h6.trans k3), ?_⟩
     show [_] = [_]
     simp [iv, GI.toZ, Int.toNat_of_nonneg k2]
    ·rename_i i hx
     split at h
     ·rename_i E e l hi
      cases hz : Nat.beq e.size 0 with
      | true => rw [hz] at h; cases h
      | false =>
       rw [hz] at h; cases h
       obtain ⟨v', cs, h3, h4⟩ := hm.arr hi
       obtain ⟨z, E', c', h5⟩ := Ahm (Cr hm.sl hx rfl)
       rw [h3] at h5; cases h5
       obtain ⟨p, len, cap, h6, h7, _⟩ := hr.Yh h3
       exact ⟨rfl, _, fun w' _ => Bs5 ht hz h4 h7 h6 w', rfl⟩
     ·cases h
    ·cases h
   ·rename_i n _ ht
    cases h
    exact ⟨rfl, _, fun w' _ => X.Bu4 ht rfl, rfl⟩
   ·cases h
  ·cases h
 ·cases h
end Go.Rx
set_option linter.unusedVariables false
set_option linter.unusedSimpArgs false
namespace Go.Rx
open Go Go.Lv
variable {P : Program} {B : Reg} {w w' : World} {L L' : List MD} {s : S} {σs : List Env} {σ : Env} {Z : Fix} {A A' : Reg} {n : Nat}
theorem Aoj : ∀ {sl : Slots} {d t : Nat} {p : PV}, (t, p) ∈ Axw d sl → (t, p) ∈ sl ∧ t ≠ d ∧ ∀ j w q, p = .gd j w q → j ≠ d
 | [], _, _, _, h => by simp [Axw] at h
 | (q, v) :: r, d, t, p, h => by
  have key : ∀ {j : Nat}, Nat.beq j d = false → j ≠ d := fun h e => by subst e; simp at h
  simp only [Axw] at h
  cases hq : Nat.beq q d with
  | true => rw [hq] at h; obtain ⟨h1, h2⟩ := Aoj h; exact ⟨.tail _ h1, h2⟩
  | false =>
   rw [hq] at h
   dsimp only [Ch, cond] at h
   split at h
   ·rename_i j w u
    cases hj : Nat.beq j d with
    | true => rw [hj] at h; obtain ⟨h1, h2⟩ := Aoj h; exact ⟨.tail _ h1, h2⟩
    | false =>
     rw [hj] at h
     rcases List.mem_cons.1 h with h | h
     ·cases h; exact ⟨.head _, key hq, fun j' w' q' e => by cases e; exact key hj⟩
     ·obtain ⟨h1, h2⟩ := Aoj h; exact ⟨.tail _ h1, h2⟩
   ·rename_i hg
    rcases List.mem_cons.1 h with h | h
    ·cases h; exact ⟨.head _, key hq, fun j' w' q' e => (hg _ _ _ e).elim⟩
    ·obtain ⟨h1, h2⟩ := Aoj h; exact ⟨.tail _ h1, h2⟩
theorem Jt.other {d t : Nat} {p : PV} {v : Value} (h : Jt B w L σ t p) (ht : t ≠ d) (hg : ∀ j w q, p = .gd j w q → j ≠ d) : Jt B w L (upd σ d v) t p := by
 cases hv : p.isV with
 | true =>
  refine (Jt.iff hv).2 ?_
  rw [Aus _ _ ht]; exact (Jt.iff hv).1 h
 | false =>
  rcases Acm hv with rfl | rfl | ⟨j, w, q, rfl⟩
  ·exact trivial
  ·show Go.Lv.upd σ d v t = _
   rw [Aus _ _ ht]; exact h
  ·obtain ⟨b, h1, h2, h3⟩ := h
   have hj := hg _ _ _ rfl
   exact ⟨b, by rw [Aus _ _ hj]; exact h1, by rw [Aus _ _ ht]; exact h2, by rw [Aus _ _ ht]; exact h3⟩
theorem SlotsR.set {sl : Slots} {d : Nat} {p : PV} {v : Value} (h : SlotsR B w L σ sl) (hp : Jt B w L (upd σ d v) d p) : SlotsR B w L (upd σ d v) (Bzk sl d p) := by
 rintro ⟨t, q⟩ hq
 rcases List.mem_cons.1 hq with hq | hq
 ·cases hq; exact hp
 ·obtain ⟨h1, h2, h3⟩ := Aoj hq
  exact (h _ h1).other h2 h3
theorem Rel.Bmf {s' : S} {σ' : Env} (hr : Rel Z s σs A L σ w) (hi : s'.it = s.it) (ht : s'.st = s.st) (h : SlotsR (fun b => A b ∧ Z.R b) w L σ' s'.sl) : Rel Z s' σs A L σ' w :=
 Rel.as hr (i := 1) rfl ⟨by rw [hi]; exact hr.mem.it, h, by rw [ht]; exact hr.mem.stk⟩ rfl
theorem Jt.put {d : Nat} {p : PV} {v : Value} (hv : p.isV = true) (h : Eg B w L p v) : Jt B w L (upd σ d v) d p := by
 refine (Jt.iff hv).2 ?_
 rw [Akk]; exact h
theorem Rel.set {d : Nat} {p : PV} {v : Value} (hr : Rel Z s σs A L σ w) (h : Jt (fun b => A b ∧ Z.R b) w L (upd σ d v) d p) : Rel Z (s.set d p) σs A L (upd σ d v) w :=
 hr.Bmf rfl rfl (hr.mem.sl.set h)
def Bom (σ : Env) (d : Option Nat) (v : Value) : Env := match d with | some d => upd σ d v | none => σ
theorem Rel.Gy {d : Option Nat} {p : PV} {v : Value} (hr : Rel Z s σs A L σ w) (hv : p.isV = true) (h : Eg (fun b => A b ∧ Z.R b) w L p v) : Rel Z (s.Gy d p) σs A L (Bom σ d v) w := by
 cases d with
 | none => exact hr
 | some d => exact hr.set (.put hv h)
theorem Rel.Bwb {d : Option Nat} (hr : Rel Z s σs A L σ w) : Rel Z (s.Gy d .off) σs A L (Bom σ d Go.undef) w := by
 cases d with
 | none => exact hr
 | some d => exact hr.set (show upd σ d Go.undef d = Go.undef from Akk _ _ _)
theorem Bgr : ∀ {sl : Slots} {t q : Nat} {b : Bool} {p : PV}, (q, p) ∈ Bpy t b sl → (q = t ∧ p = .cst (.bool b)) ∨ (∃ p0, (q, p0) ∈ sl ∧ (p = p0 ∨ ∃ want u, p0 = .gd t want u ∧ p = (Ch (eqB want b ) (u ) <| .off)))
 | [], _, _, _, _, h => by simp [Bpy] at h
 | (q', v) :: r, t, q, b, p, h => by
  simp only [Bpy] at h
  rcases List.mem_cons.1 h with g | g
  ·clear h
   cases hq : Nat.beq q' t with
   | true =>
    rw [hq] at g
    simp only [cond_true, Bbm, Prod.mk.injEq] at g
    exact .inl ⟨g.1.trans (Nat.eq_of_beq_eq_true hq), g.2⟩
   | false =>
    rw [hq] at g
    dsimp only [Ch, cond] at g
    split at g
    ·rename_i j want u
     cases hj : Nat.beq j t with
     | true =>
      rw [hj] at g
      simp only [cond_true, Bbm, Prod.mk.injEq] at g
      have := Nat.eq_of_beq_eq_true hj
      subst this
      exact .inr ⟨_, by rw [g.1]; exact .head _, .inr ⟨want, u, rfl, g.2⟩⟩
     | false =>
      rw [hj] at g
      cases g
      exact .inr ⟨_, .head _, .inl rfl⟩
    ·cases g
     exact .inr ⟨_, .head _, .inl rfl⟩
  ·rcases Bgr g with h | ⟨p0, h1, h2⟩
   ·exact .inl h
   ·exact .inr ⟨p0, .tail _ h1, h2⟩
theorem SlotsR.res {sl : Slots} {t : Nat} {b : Bool} (h : SlotsR B w L σ sl) (ht : σ t = .bool b) : SlotsR B w L σ (Bpy t b sl) := by
 rintro ⟨q, p⟩ hp
 rcases Bgr hp with ⟨h1, h2⟩ | ⟨p0, h1, h2⟩
 ·subst h1; subst h2
  exact ⟨show [σ q] = [_] by rw [ht], rfl⟩
 ·have h3 := h _ h1
  rcases h2 with rfl | ⟨want, u, rfl, rfl⟩
  ·exact h3
  ·obtain ⟨c, h4, h5, h6⟩ := h3
   rw [ht] at h4; cases h4
   cases hw : eqB want b with
   | true =>
    have hb := Bqd hw
    subst hb
    have h7 := h5 rfl
    cases hv : u.isV with
    | true => exact (Jt.iff hv).2 h7
    | false =>
     rcases Acm hv with rfl | rfl | ⟨j, w', q', rfl⟩
     ·exact trivial
     ·exact (show False from h7).elim
     ·exact (show False from h7).elim
   | false =>
    show σ q = _
    refine h6 fun e => ?_
    subst e
    cases b <;> cases hw
theorem Rel.res {t : Nat} {b : Bool} (hr : Rel Z s σs A L σ w) (ht : σ t = .bool b) : Rel Z (s.res t b) σs A L σ w := hr.Bmf rfl rfl (hr.mem.sl.res ht)
structure Grow (A : Reg) (L : List MD) (it : List Item) (w : World) (A' : Reg) (L' : List MD) (it' : List Item) (w' : World) : Prop where
 reg : ∀ b, A b → A' b
 same : Same A w w'
 md : ∃ M, L' = L ++ M
 it : ∃ m, it' = it ++ m
theorem Grow.refl {it : List Item} : Grow A L it w A L it w := ⟨fun _ h => h, fun _ _ => rfl, ⟨[], by simp⟩, ⟨[], by simp⟩⟩
theorem Grow.trans {A'' : Reg} {L'' : List MD} {it it' it'' : List Item} {w'' : World} (h : Grow A L it w A' L' it' w') (h' : Grow A' L' it' w' A'' L'' it'' w'') : Grow A L it w A'' L'' it'' w'' := by
 obtain ⟨M, e1⟩ := h.md; obtain ⟨m, e2⟩ := h.it; obtain ⟨M', e3⟩ := h'.md; obtain ⟨m', e4⟩ := h'.it
 exact ⟨fun b hb => h'.reg b (h.reg b hb), fun b hb => (h'.same b (h.reg b hb)).trans (h.same b hb), ⟨M ++ M', by rw [e3, e1, List.append_assoc]⟩, ⟨m ++ m', by rw [e4, e2, List.append_assoc]⟩⟩
theorem Grow.ext {s' : S} {σ' : Env} (hg : Grow A L s.it w A' L' s'.it w') (hr : Rel Z s σs A L σ w) (hr' : Rel Z s' σs A' L' σ' w') : Ext Z s σs A L σ w w' := by
 obtain ⟨M, e1⟩ := hg.md; obtain ⟨m, e2⟩ := hg.it
 refine ⟨⟨A', M, m, hg.reg, ?_⟩, hg.same⟩
 rw [← e1]
 have hl : LeL L L' := by rw [e1]; exact LeL.append _ _
 exact Rel.as hr' (i := 1) rfl ⟨by rw [← e2]; exact hr'.mem.it, hr.mem.sl.step (fun b hb => ⟨hg.reg b hb.1, hb.2⟩) (fun b hb => hg.same b hb.1) hl,
  hr.mem.stk.step (fun b hb => ⟨hg.reg b hb.1, hb.2⟩) (fun b hb => hg.same b hb.1) hl⟩ rfl
theorem Mobs.As4 {F : List Fact} {LL LL' : List Mob} (h : St A w F LL) (hp : LL.Perm LL') : St A w F LL' := ⟨h.lt, h.facts, h.mobs.perm hp⟩
theorem Rel.push {md : MD} {a : Item} (h : St A' w' [Ayk Z.R L s σs σ, .old Z.M Z.w0] (md.Jv :: L.map MD.Jv)) (ha : ItemR (fun b => A' b ∧ Z.R b) w' (L ++ [md]) a md) :
  Rel Z (s.add a) σs A' (L ++ [md]) σ w' := by
 have hm : MemR (fun b => A' b ∧ Z.R b) w' L s σs σ := h.fact 0 rfl
 have hl := LeL.append L [md]
 refine Rel.as (h := Mobs.As4 h ?_) (i := 1) rfl ⟨⟨?_, ?_⟩, hm.sl.step (fun _ h => h) (fun _ _ => rfl) hl, hm.stk.step (fun _ h => h) (fun _ _ => rfl) hl⟩ rfl
 ·rw [List.map_append]; exact (List.perm_append_comm (l₁ := [md.Jv]) (l₂ := L.map MD.Jv))
 ·simp [S.add, hm.it.1]
 ·intro i a' m h1 h2
  simp only [S.add] at h1
  rcases Nat.lt_or_ge i s.it.length with hi | hi
  ·rw [List.getElem?_append_left hi] at h1
   rw [List.getElem?_append_left (by rw [← hm.it.1]; exact hi)] at h2
   exact (hm.it.2 i a' m h1 h2).step (fun _ h => h) (fun _ _ => rfl) hl
  ·rw [List.getElem?_append_right hi] at h1
   rw [List.getElem?_append_right (by rw [← hm.it.1]; exact hi)] at h2
   rw [hm.it.1] at h1
   cases hq : i - L.length with
   | zero => rw [hq] at h1 h2; simp at h1 h2; subst h1 h2; exact ha
   | succ q => rw [hq] at h1; simp at h1
theorem Asr : ∀ {it : List Item} {i j : Nat} {a b : Item}, (Adz it i a)[j]? = some b → (j = i ∧ b = a) ∨ (j ≠ i ∧ it[j]? = some b)
 | [], _, _, _, _, h => by simp [Adz] at h
 | c :: r, 0, 0, a, b, h => by simp [Adz] at h; exact .inl ⟨rfl, h.symm⟩
 | c :: r, 0, j + 1, a, b, h => by simp [Adz] at h; exact .inr ⟨by omega, by simpa using h⟩
 | c :: r, i + 1, 0, a, b, h => by simp [Adz] at h; exact .inr ⟨by omega, by simpa using h⟩
 | c :: r, i + 1, j + 1, a, b, h => by
  simp [Adz] at h
  rcases Asr h with ⟨h1, h2⟩ | ⟨h1, h2⟩
  ·exact .inl ⟨by omega, h2⟩
  ·exact .inr ⟨by omega, by simpa using h2⟩
theorem As8 : ∀ {it : List Item} {i : Nat} {a : Item}, (Adz it i a).length = it.length
 | [], _, _ => rfl
 | _ :: _, 0, _ => rfl
 | _ :: r, i + 1, a => by simp [Adz, As8]
theorem Rel.change {i : Nat} {md md' : MD} {a : Item} (h : St A' w' [Ayk Z.R L s σs σ, .old Z.M Z.w0] ((L.map MD.Jv).set i md'.Jv)) (hi : L[i]? = some md)
  (hle : LeL L (L.set i md')) (ha : ItemR (fun b => A' b ∧ Z.R b) w' (L.set i md') a md') : Rel Z (s.upd i a) σs A' (L.set i md') σ w' := by
 have hm : MemR (fun b => A' b ∧ Z.R b) w' L s σs σ := h.fact 0 rfl
 refine Rel.as h (i := 1) rfl ⟨⟨?_, ?_⟩, hm.sl.step (fun _ h => h) (fun _ _ => rfl) hle, hm.stk.step (fun _ h => h) (fun _ _ => rfl) hle⟩ (by rw [List.map_set])
 ·simp [S.upd, As8, hm.it.1]
 ·intro j b m h1 h2
  simp only [S.upd] at h1
  rcases Asr h1 with ⟨rfl, rfl⟩ | ⟨h3, h4⟩
  ·rw [List.getElem?_set_self (List.getElem?_eq_some_iff.1 hi).1] at h2
   cases h2; exact ha
  ·rw [List.getElem?_set_ne (Ne.symm h3)] at h2
   exact (hm.it.2 j b m h4 h2).step (fun _ h => h) (fun _ _ => rfl) hle
theorem LeL.set {i : Nat} {md md' : MD} (hi : L[i]? = some md) (h1 : ∀ s E v c, md = .own s E v c → ∃ s' E' c', md' = .own s' E' v c') (h2 : ∀ b, md.base = some b → md'.base = some b) : LeL L (L.set i md') := by
 have hl := (List.getElem?_eq_some_iff.1 hi).1
 refine ⟨fun j s E v c h => ?_, fun j m b h h' => ?_⟩
 ·by_cases hj : j = i
  ·subst hj
   rw [hi] at h; cases h
   obtain ⟨s', E', c', rfl⟩ := h1 _ _ _ _ rfl
   exact ⟨s', E', c', by rw [List.getElem?_set_self hl]⟩
  ·exact ⟨s, E, c, by rw [List.getElem?_set_ne (Ne.symm hj)]; exact h⟩
 ·by_cases hj : j = i
  ·subst hj
   rw [hi] at h; cases h
   exact ⟨md', by rw [List.getElem?_set_self hl], h2 b h'⟩
  ·exact ⟨m, by rw [List.getElem?_set_ne (Ne.symm hj)]; exact h, h'⟩
end Go.Rx
set_option linter.unusedVariables false
set_option linter.unusedSimpArgs false
namespace Go.Rx
open Go Go.Lv
variable {P : Program} {B : Reg} {w w' : World} {L L' : List MD} {s : S} {σs : List Env} {σ : Env} {Z : Fix} {A A' : Reg} {n : Nat}
theorem Bt.get {α : Type} {f : α → List Value → Prop} {z : Nat} (hz : ∀ x c, f x c → c.length = z) : ∀ {l : List α} {i : Nat} {x : α} {cs : List Value}, Bt f l cs → l[i]? = some x →
  ∃ c1 c2 c3, cs = c1 ++ (c2 ++ c3) ∧ c1.length = i * z ∧ f x c2 ∧ ∀ y c2', f y c2' → Bt f (l.set i y) (c1 ++ (c2' ++ c3))
 | [], _, _, _, _, h => by simp at h
 | a :: l, 0, x, cs, ⟨c1, c2, e, h1, h2⟩, h => by
  simp at h; subst h
  exact ⟨[], c1, c2, by simpa using e, by simp, h1, fun y c2' hy => ⟨c2', c2, by simp, hy, h2⟩⟩
 | a :: l, i + 1, x, cs, ⟨c1, c2, e, h1, h2⟩, h => by
  obtain ⟨d1, d2, d3, e', h3, h4, h5⟩ := Bt.get hz (i := i) h2 (by simpa using h)
  refine ⟨c1 ++ d1, d2, d3, by rw [e, e']; simp, by rw [List.length_append, hz _ _ h1, h3, Nat.succ_mul]; omega, h4, fun y c2' hy => ?_⟩
  exact ⟨c1, d1 ++ (c2' ++ d3), by simp, h1, h5 y c2' hy⟩
theorem Bt.append {α : Type} {f : α → List Value → Prop} : ∀ {l m : List α} {cs ds : List Value}, Bt f l cs → Bt f m ds → Bt f (l ++ m) (cs ++ ds)
 | [], m, cs, ds, h, h' => by rw [show cs = [] from h]; exact h'
 | a :: l, m, cs, ds, ⟨c1, c2, e, h1, h2⟩, h' => ⟨c1, c2 ++ ds, by rw [e]; simp, h1, Bt.append h2 h'⟩
theorem Ax.one : ∀ {e : ET} {x : e.T} {cs : List Value}, Ax B w e x cs → ∀ v ∈ cs, v.oneCell' = true
 | .int k, x, cs, h, v, hv => by rw [show cs = _ from h] at hv; simp at hv; subst hv; rfl
 | .bool, x, cs, h, v, hv => by rw [show cs = _ from h] at hv; simp at hv; subst hv; rfl
 | .str, x, cs, h, v, hv => by rw [show cs = _ from h] at hv; simp at hv; subst hv; rfl
 | .list e, l, cs, ⟨u, c0, e1, h, _⟩, v, hv => by
  rw [e1] at hv; simp at hv; subst hv
  obtain ⟨p, len, cap, rfl, _⟩ := h; rfl
 | .vec n e, l, cs, ⟨_, h⟩, v, hv => by
  have key : ∀ (l : List e.T) (cs : List Value), Bt (Ax B w e) l cs → v ∈ cs → v.oneCell' = true := by
   intro l
   induction l with
   | nil => intro cs h hv; rw [show cs = [] from h] at hv; simp at hv
   | cons a l ih =>
    rintro cs ⟨c1, c2, e', h1, h2⟩ hv
    subst e'
    rcases List.mem_append.1 hv with hv | hv
    ·exact Ax.one h1 v hv
    ·exact ih _ h2 hv
  exact key l cs h hv
 | .cons a r, x, cs, ⟨c1, c2, e, h1, h2⟩, v, hv => by
  subst e
  rcases List.mem_append.1 hv with hv | hv
  ·exact Ax.one h1 v hv
  ·exact Ax.one h2 v hv
 | .nil, _, cs, h, v, hv => by rw [show cs = [] from h] at hv; simp at hv
theorem Bt.one {e : ET} : ∀ {l : List e.T} {cs : List Value}, Bt (Ax B w e) l cs → ∀ v ∈ cs, v.oneCell' = true
 | [], cs, h, v, hv => by rw [show cs = [] from h] at hv; simp at hv
 | a :: l, cs, ⟨c1, c2, e', h1, h2⟩, v, hv => by
  subst e'
  rcases List.mem_append.1 hv with hv | hv
  ·exact h1.one v hv
  ·exact Bt.one h2 v hv
theorem Bt.Bgg {e : ET} {l : List e.T} {cs : List Value} (h : Bt (Ax B w e) l cs) : cs.all (·.oneCell') = true := List.all_eq_true.2 h.one
theorem Ayw {R : Type} {k : PV → Option R} {r : R} : ∀ {p : List Step} {v : PV} {cs : List Value}, Bj0 v p k = some r → EncC B w L v cs →
  ∃ u c1 c2 c3, k u = some r ∧ cs = c1 ++ (c2 ++ c3) ∧ c1.length = Ar p ∧ EncC B w L u c2
 | [], v, cs, h, hv => ⟨v, [], cs, [], by simpa [Bj0] using h, by simp, rfl, hv⟩
 | .fld m off :: p, v, cs, h, hv => by
  cases v <;> simp only [Bj0, reduceCtorEq] at h
  rename_i l
  split at h
  ·rename_i f hf
   obtain ⟨hb, h⟩ := Az h
   obtain ⟨c1, c2, c3, e, h1, h2, _⟩ := EncC.field (show EncC.go B w L l cs from hv) hf
   obtain ⟨u, d1, d2, d3, hk, e', h3, h4⟩ := Ayw h h2
   refine ⟨u, c1 ++ d1, d2, d3 ++ c3, hk, by rw [e, e']; simp, ?_, h4⟩
   rw [List.length_append, h1, h3, Cf hb]; rfl
  ·cases h
 | .idx j z :: p, v, cs, h, hv => by
  cases v <;> simp only [Bj0, reduceCtorEq] at h
  rename_i e x
  split at h
  ·rename_i m a l
   obtain ⟨hb, h⟩ := Az h
   obtain ⟨y, hy, h⟩ := bind_some h
   obtain ⟨hj, _, hl⟩ := Jk hy
   obtain ⟨c1, c2, c3, e, h1, h2, _⟩ := Bt.get (fun x c h => Ax.len h) (show Bt (Ax B w a) l cs from hv.2) hl
   obtain ⟨u, d1, d2, d3, hk, e', h3, h4⟩ := Ayw h (Anc.2 h2)
   refine ⟨u, c1 ++ d1, d2, d3 ++ c3, hk, by rw [e, e']; simp, ?_, h4⟩
   rw [List.length_append, h1, h3, Cf hb]; rfl
  ·cases h
def Att (B : Reg) (w : World) (L : List MD) : Item → List Value → Prop
 | .box _ v, cs => EncC B w L v cs
 | .arr _ e l, cs => Bt (Ax B w e) l cs
 | .dead, _ => False
theorem Bbo {R : Type} {k : PV → Option R} {r : R} {a : Item} {p : List Step} {cs : List Value} (h : getRoot a p k = some r) (hv : Att B w L a cs) :
  ∃ u c1 c2 c3, k u = some r ∧ cs = c1 ++ (c2 ++ c3) ∧ c1.length = Ar p ∧ EncC B w L u c2 := by
 unfold getRoot at h
 split at h
 ·exact Ayw h hv
 ·rename_i E e l j z p
  obtain ⟨hb, h⟩ := Az h
  obtain ⟨y, hy, h⟩ := bind_some h
  obtain ⟨hj, _, hl⟩ := Jk hy
  obtain ⟨c1, c2, c3, e', h1, h2, _⟩ := Bt.get (fun x c h => Ax.len h) (show Bt (Ax B w e) l cs from hv) hl
  obtain ⟨u, d1, d2, d3, hk, e'', h3, h4⟩ := Ayw h (Anc.2 h2)
  refine ⟨u, c1 ++ d1, d2, d3 ++ c3, hk, by rw [e', e'']; simp, ?_, h4⟩
  rw [List.length_append, h1, h3, Cf hb]; rfl
 ·cases h
theorem Aou {c1 c2 c3 ns : List Value} (h : ns.length = c2.length) : Bb (c1 ++ (c2 ++ c3)) c1.length ns = c1 ++ (ns ++ c3) := by
 unfold Bb
 rw [List.take_left, h, ← List.drop_drop, List.drop_left, List.drop_left]
theorem Anm {c1 c2 c3 ns : List Value} {o : Nat} (hc : c1.length = o) (off : Nat) (h : off + ns.length ≤ c2.length) : Bb (c1 ++ (c2 ++ c3)) (o + off) ns = c1 ++ (Bb c2 off ns ++ c3) := by
 subst hc
 unfold Bb
 rw [List.take_length_add_append, List.take_append_of_le_length (by omega), Nat.add_assoc, ← List.drop_drop, List.drop_left, List.drop_append_of_le_length (by omega)]
 simp
theorem Ava {R : Type} {new : PV} {ns : List Value} (hn : EncC B w L new ns) {r : R} : ∀ {p : List Step} {v : PV} {cs : List Value} {k : PV → Option R}, Bf8 new v p k = some r → EncC B w L v cs →
  ∃ v', k v' = some r ∧ Ar p + ns.length ≤ cs.length ∧ EncC B w L v' (Bb cs (Ar p) ns)
 | [], v, cs, k, h, hv => by
  simp only [Bf8] at h
  obtain ⟨hb, h⟩ := Az h
  have h1 := hn.len
  have h2 := hv.len
  have h3 := Cf hb
  refine ⟨new, h, by simp [Ar]; omega, ?_⟩
  have : Bb cs 0 ns = ns := by
   unfold Bb
   rw [List.take_zero, List.nil_append, List.drop_of_length_le (by omega), List.append_nil]
  rw [show Ar [] = 0 from rfl, this]; exact hn
 | .fld m off :: p, v, cs, k, h, hv => by
  cases v <;> simp only [Bf8, reduceCtorEq] at h
  rename_i l
  split at h
  ·rename_i f hf
   obtain ⟨hb, h⟩ := Az h
   obtain ⟨c1, c2, c3, e, h1, h2, h3⟩ := EncC.field (show EncC.go B w L l cs from hv) hf
   obtain ⟨f', hk, h4, h5⟩ := Ava hn h h2
   have ho : Ar (.fld m off :: p) = c1.length + Ar p := by rw [h1, Cf hb]; rfl
   refine ⟨_, hk, by rw [ho, e]; simp; omega, ?_⟩
   rw [ho, e, Anm rfl _ h4]
   exact h3 f' _ h5
  ·cases h
 | .idx j z :: p, v, cs, k, h, hv => by
  cases v <;> simp only [Bf8, reduceCtorEq] at h
  rename_i e x
  split at h
  ·rename_i m a l
   obtain ⟨hb, h⟩ := Az h
   have hz := Cf hb
   have key : ∀ (y y' : a.T) (l' : List a.T) (f : List Value → List Value), Ak l j = some y → Tp l j y' = some l' → (∀ c2, Ax B w a y c2 → Ar p + ns.length ≤ c2.length ∧ Ax B w a y' (Bb c2 (Ar p) ns)) →
     Ar (.idx j z :: p) + ns.length ≤ cs.length ∧ EncC B w L (.val (.vec m a) l') (Bb cs (Ar (.idx j z :: p)) ns) := by
    intro y y' l' f hy hs hyp
    obtain ⟨hj, hlt, hl⟩ := Jk hy
    obtain ⟨_, _, rfl⟩ := Aoe hs
    obtain ⟨c1, c2, c3, e, h1, h2, h3⟩ := Bt.get (fun x c h => Ax.len h) (show Bt (Ax B w a) l cs from hv.2) hl
    obtain ⟨h4, h5⟩ := hyp c2 h2
    have ho : Ar (.idx j z :: p) = c1.length + Ar p := by rw [h1, hz]; rfl
    refine ⟨by rw [ho, e]; simp; omega, ?_⟩
    rw [ho, e, Anm rfl _ h4]
    exact ⟨by rw [List.length_set]; exact hv.1, h3 y' _ h5⟩
   split at h
   ·split at h
    ·rename_i y' hy'
     obtain ⟨l', hs, h⟩ := bind_some h
     obtain ⟨hj, hlt, _⟩ := Aoe hs
     have hg : Ak l j = some l[j.toNat] := by
      unfold Ak; rw [if_pos (by omega)]; simp [hlt]
     obtain ⟨h1, h2⟩ := key _ y' l' id hg hs (fun c2 hc2 => by
      have e1 := (Akj hy' hn).len
      have e2 := hc2.len
      refine ⟨by simp [Ar]; omega, ?_⟩
      have : Bb c2 0 ns = ns := by
       unfold Bb
       rw [List.take_zero, List.nil_append, List.drop_of_length_le (by omega), List.append_nil]
      rw [show Ar [] = 0 from rfl, this]; exact Akj hy' hn)
     exact ⟨_, h, h1, h2⟩
    ·cases h
   ·obtain ⟨y, hy, h⟩ := bind_some h
    obtain ⟨hj, hlt, hl⟩ := Jk hy
    obtain ⟨c1, c2, c3, e, h1, h2, h3⟩ := Bt.get (fun x c h => Ax.len h) (show Bt (Ax B w a) l cs from hv.2) hl
    obtain ⟨q, hk, h4, h5⟩ := Ava hn h (Anc.2 h2)
    split at hk
    ·rename_i y' hy'
     obtain ⟨l', hs, hk⟩ := bind_some hk
     obtain ⟨_, _, rfl⟩ := Aoe hs
     have ho : Ar (.idx j z :: p) = c1.length + Ar p := by rw [h1, hz]; rfl
     refine ⟨_, hk, by rw [ho, e]; simp; omega, ?_⟩
     rw [ho, e, Anm rfl _ h4]
     exact ⟨by rw [List.length_set]; exact hv.1, h3 y' _ (Akj hy' h5)⟩
    ·cases hk
  ·cases h
def sameKind : Item → Item → Prop | .box T _, .box T' _ => T' = T | .arr E e _, .arr E' e' _ => E' = E ∧ e' = e | _, _ => False
theorem Bk0 {R : Type} {new : PV} {ns : List Value} (hn : EncC B w L new ns) {r : R} {a : Item} {p : List Step} {cs : List Value} {k : Item → Option R} (h : Ayo new a p k = some r) (hv : Att B w L a cs) :
  ∃ a', k a' = some r ∧ Ar p + ns.length ≤ cs.length ∧ Att B w L a' (Bb cs (Ar p) ns) ∧ sameKind a a' := by
 unfold Ayo at h
 split at h
 ·obtain ⟨v', hk, h1, h2⟩ := Ava hn h hv
  exact ⟨_, hk, h1, h2, rfl⟩
 ·rename_i E a l j z p
  obtain ⟨hb, h⟩ := Az h
  have hz := Cf hb
  split at h
  ·split at h
   ·rename_i y' hy'
    obtain ⟨l', hs, h⟩ := bind_some h
    obtain ⟨hj, hlt, rfl⟩ := Aoe hs
    have hl : l[j.toNat]? = some l[j.toNat] := by simp [hlt]
    obtain ⟨c1, c2, c3, e, h1, h2, h3⟩ := Bt.get (fun x c h => Ax.len h) (show Bt (Ax B w a) l cs from hv) hl
    have e1 := (Akj hy' hn).len
    have e2 := h2.len
    have ho : Ar [.idx j z] = c1.length := by rw [h1, hz]; rfl
    refine ⟨_, h, by rw [ho, e]; simp; omega, ?_, rfl, rfl⟩
    rw [ho, e, Aou (by omega)]
    exact h3 y' _ (Akj hy' hn)
   ·cases h
  ·obtain ⟨y, hy, h⟩ := bind_some h
   obtain ⟨hj, hlt, hl⟩ := Jk hy
   obtain ⟨c1, c2, c3, e, h1, h2, h3⟩ := Bt.get (fun x c h => Ax.len h) (show Bt (Ax B w a) l cs from hv) hl
   obtain ⟨q, hk, h4, h5⟩ := Ava hn h (Anc.2 h2)
   split at hk
   ·rename_i y' hy'
    obtain ⟨l', hs, hk⟩ := bind_some hk
    obtain ⟨_, _, rfl⟩ := Aoe hs
    have ho : Ar (.idx j z :: p) = c1.length + Ar p := by rw [h1, hz]; rfl
    refine ⟨_, hk, by rw [ho, e]; simp; omega, ?_, rfl, rfl⟩
    rw [ho, e, Anm rfl _ h4]
    exact h3 y' _ (Akj hy' h5)
   ·cases hk
 ·cases h
end Go.Rx
set_option linter.unusedVariables false
set_option linter.unusedSimpArgs false
namespace Go.Rx
open Go Go.Lv
variable {P : Program} {w w' : World} {L L' : List MD} {s : S} {σs : List Env} {σ : Env} {Z : Fix} {A A' : Reg} {n : Nat} {ops : Array Oper} {rest : List Oper} {K : Env → World → Prop}
variable {R : Type} {k : S → Option R} {r : R} {d : Option Nat} {ty : TypeId} {pos : String} {after : Array Edge}
theorem WL.Bla {o : Oper} {v : Value} {w' : World} (hg : o.guard = none) (hdn : Ki n o = true)
  (hx : (execOp (ev σ) o).run P w = .ok (.value v) w') (h : WL P n ops rest K (Bom σ o.dst v) w') : WL P n ops (o :: rest) K σ w := by
 intro ds a ha
 refine wpList_plain hg fun K' hK' => ?_
 unfold Oper.wp
 rw [ha.eval, hx]
 refine hK' _ _ ?_
 cases hd : o.dst with
 | none => rw [hd] at h; exact h _ _ (ha.Bae v)
 | some d =>
  rw [hd] at h
  unfold Ki at hdn
  rw [hd] at hdn
  exact h _ _ (ha.put hdn v)
def Bcy (Z : Fix) (σs : List Env) (k : S → Option R) (r : R) (G : Prop) (A : Reg) (L : List MD) (it : List Item) (w : World) (σ' : Env) (w' : World) : Prop :=
 ∃ s' A' L', k s' = some r ∧ Rel Z s' σs A' L' σ' w' ∧ (G → Grow A L it w A' L' s'.it w')
abbrev Adv (P : Program) (n : Nat) (ops : Array Oper) (o : Oper) (Z : Fix) (s : S) (σs : List Env) (k : S → Option R) (r : R) (G : Prop) (A : Reg) (L : List MD) (σ : Env) (w : World) : Prop :=
 WL P n ops [o] (Bcy Z σs k r G A L s.it w) σ w
theorem Dk {o : Op} {p : PV} {val : Value} {G : Prop} (hr : Rel Z s σs A L σ w) (hd : Ki n ⟨d, o, ty, pos, after, none⟩ = true) (hx : XO P σ w o val) (hv : p.isV = true) (h : Eg (fun b => A b ∧ Z.R b) w L p val)
  (hk : k (s.Gy d p) = some r) : Adv P n ops ⟨d, o, ty, pos, after, none⟩ Z s σs k r G A L σ w := by
 refine WL.Bla rfl hd (hx _ _ _ _ _) (WL.nil ⟨_, A, L, hk, hr.Gy hv h, fun _ => ?_⟩)
 have : (s.Gy d p).it = s.it := by cases d <;> rfl
 rw [this]; exact .refl
theorem Aht {p : PV} {j : Int} {v : Value} {B : Reg} (h : Aqe p = some j) (hv : Eg B w L p v) : ∃ q, v = .int q j := by
 unfold Aqe at h
 split at h
 ·rename_i e x
  split at h
  ·cases h; exact ⟨_, Akm hv⟩
  ·cases h
 ·cases h
theorem Ame {p : PV} {j : Int} (h : Aqe p = some j) : p.isV = true := by unfold Aqe at h; split at h; rfl; cases h
theorem Bao {p : PV} {j : Int} {v : Value} {B : Reg} (h : asInt p = some j) (hv : Eg B w L p v) : v = iv j := by
 unfold asInt at h
 split at h
 ·rename_i e x
  split at h
  ·rename_i q y
   split at h
   ·cases h; exact Akm hv
   ·cases h
  ·cases h
 ·cases h
theorem Be5 {p : PV} {j : Int} (h : asInt p = some j) : p.isV = true := by unfold asInt at h; split at h; rfl; cases h
theorem Lt {o : Option Operand} {dflt j : Int} {B : Reg} (hm : SlotsR B w L σ s.sl) (h : Am6 s.sl o dflt = some j) : (∃ q, o.map (ev σ) = some (.int q j)) ∨ (o = none ∧ j = dflt) := by
 unfold Am6 at h
 split at h
 ·cases h; exact .inr ⟨rfl, rfl⟩
 ·rename_i x
  obtain ⟨q, hq⟩ := Aht h (Vs hm x (Ame h))
  exact .inl ⟨q, by rw [Option.map_some, hq]⟩
theorem X.Bss {t : TypeId} {x ix : Operand} {l : List UInt8} {j : Int} {q : IntKind} {y : UInt8} (ht : P.underlying t = some .string) (hx : ev σ x = sv l) (hi : ev σ ix = .int q j) (hg : Ak l j = some y) :
  XO P σ w (.index t x ix) (iv y) := fun _ _ _ _ _ => by
 obtain ⟨h1, h2, h3⟩ := Jk hg
 have h4 := run_index_string (P := P) w t ⟨l.toArray⟩ q j ht
 have h5 : 0 ≤ j ∧ j < (⟨l.toArray⟩ : ByteArray).size := by simp [ByteArray.size]; omega
 rw [dif_pos h5] at h4
 have h6 : (⟨l.toArray⟩ : ByteArray)[j.toNat]'(by simp [ByteArray.size]; omega) = y := by
  have e1 : l[j.toNat] = y := by rw [List.getElem?_eq_getElem h2] at h3; simpa using h3
  rw [← e1]
  rfl
 simp only [execOp, hx, hi, Sem.run_bind, h4, Result.andThen_ok, Sem.run_pure, Bnn]
 rw [h6]
theorem Buh {t et : TypeId} {m : Nat} {e : ET} {x ix : Operand} {l : List e.T} {j : Int} {q : IntKind} {y : e.T} {cs : List Value} {B : Reg} (ht : P.underlying t = some (.array m et)) (hsz : SizeIs P et e.size)
  (hag : ∃ u, P.underlying et = some u ∧ aggB u = (e.pv y).isA) (h1 : (e.pv y).isA = false → e.size = 1) (hlen : l.length = m)
  (hx : ev σ x = .agg cs.toArray) (hl : Bt (Ax B w e) l cs) (hi : ev σ ix = .int q j) (hg : Ak l j = some y) : ∃ val, XO P σ w (.index t x ix) val ∧ Iw B w L (e.pv y) val := by
 obtain ⟨h3, h4, h5⟩ := Jk hg
 obtain ⟨c1, c2, c3, he, h6, h7, _⟩ := Bt.get (fun x c h => Ax.len h) hl h5
 have h8 : 0 ≤ j ∧ j < (m : Int) := by omega
 obtain ⟨u, hu, ha⟩ := hag
 have hc2 := h7.len
 cases hA : (e.pv y).isA with
 | true =>
  refine ⟨.agg c2.toArray, fun _ _ _ _ _ => ?_, by unfold Iw; rw [hA]; exact ⟨c2, rfl, Anc.2 h7⟩⟩
  have e1 : (cs.drop (j.toNat * e.size)).take e.size = c2 := by rw [he, ← h6, ← hc2]; simp
  simp [execOp, hx, hi, Instr.index, asIntOf, run_underlying ht, h8, Bj hsz, asAgg, part, Ee hu (ha.trans hA), e1]
 | false =>
  rw [h1 hA] at hc2
  match c2, hc2 with
  | [v], _ =>
   refine ⟨v, fun _ _ _ _ _ => ?_, by unfold Iw; rw [hA]; exact Anc.2 h7⟩
   have e1 : cs[j.toNat * e.size]? = some v := by rw [he, ← h6]; simp
   simp [execOp, hx, hi, Instr.index, asIntOf, run_underlying ht, h8, Bj hsz, asAgg, part, Ee hu (ha.trans hA), e1]
theorem Vh {t et : TypeId} {b o len cap z : Nat} {j : Int} {q : IntKind} {x ix : Operand} (ht : P.underlying t = some (.slice et)) (hsz : SizeIs P et z) (hx : ev σ x = .slice (some ⟨b, o, none⟩) len cap) (hi : ev σ ix = .int q j)
  (h0 : 0 ≤ j) (h1 : j < len) (w : World) : XO P σ w (.indexAddr t x ix) (.pointer (some ⟨b, o + j.toNat * z, none⟩)) := fun _ _ _ _ _ => by
 simp only [execOp, hx, hi, Instr.indexAt, Sem.run_bind, asIntOf, Sem.run_pure, Result.andThen_ok, run_underlying ht, h0, h1, and_self, if_true, Bj hsz, Nl]
theorem Am5 {t et : TypeId} {b o m z : Nat} {j : Int} {q : IntKind} {x ix : Operand} (ht : P.underlying t = some (.array m et)) (hsz : SizeIs P et z) (hx : ev σ x = .pointer (some ⟨b, o, none⟩)) (hi : ev σ ix = .int q j)
  (h0 : 0 ≤ j) (h1 : j < m) (w : World) : XO P σ w (.indexAddr t x ix) (.pointer (some ⟨b, o + j.toNat * z, none⟩)) := fun _ _ _ _ _ => by
 simp only [execOp, hx, hi, Instr.indexAt, Instr.sureAddr, Sem.run_bind, asIntOf, Sem.run_pure, Result.andThen_ok, run_underlying ht, h0, h1, and_self, if_true, Bj hsz, Nl]
theorem Em {t : TypeId} {i : TypeInfo} {z : Nat} (h : P.info? t = some i) (hz : Nat.beq i.size z = true) : SizeIs P t z := ⟨i, h, Cf hz⟩
theorem Rel.base (hr : Rel Z s σs A L σ w) {i z : Nat} {E : TypeId} {v : Value} {cs : List Value} (h : L[i]? = some (.own z E v cs)) (hne : 0 < cs.length) : ∃ b len cap, v = .slice (some ⟨b, 0, none⟩) len cap ∧ cs.length = len * z := by
 obtain ⟨b, m, c, hv, _⟩ := St.Be0 hr (hr.Jv h) hne
 obtain ⟨p, len, cap, h1, h2, _⟩ := hr.Yh h
 subst hv; cases h1
 exact ⟨b, m, c, rfl, h2⟩
theorem Apk (st : Step) : ∀ (p : List Step), Ar (p ++ [st]) = Ar p + As6 st
 | [] => by simp [Ar]
 | a :: p => by simp [Ar, Apk st p, Nat.add_assoc]
theorem Bk2 {t : TypeId} {x ix : Operand} {G : Prop} (hr : Rel Z s σs A L σ w) (hd : Ki n ⟨d, .indexAddr t x ix, ty, pos, after, none⟩ = true) (h : Aw7 P s d t x ix k = some r) :
  Adv P n ops ⟨d, .indexAddr t x ix, ty, pos, after, none⟩ Z s σs k r G A L σ w := by
 have hm := hr.mem
 unfold Aw7 at h
 split at h
 ·cases h
 ·rename_i j hj
  obtain ⟨q, hix⟩ := Aht hj (Vs hm.sl ix (Ame hj))
  split at h
  ·rename_i et ht
   split at h
   ·cases h
   ·rename_i inf hinf
    split at h
    ·rename_i e0 l0 hx
     split at h
     ·rename_i e l
      obtain ⟨hb, h⟩ := Az h
      simp only [Bool.and_eq_true] at hb
      obtain ⟨y, hy, h⟩ := bind_some h
      obtain ⟨hj0, hj1, hj2⟩ := Jk hy
      obtain ⟨c0, h1, h2⟩ := Acf (Cr hm.sl hx rfl)
      obtain ⟨p, len, cap, h3, h4, h5, h6, h7⟩ := h1
      have hlen := h2.len fun x c h => Ax.len h
      have hz : 0 < e.size := by have := Nat.le_of_ble_eq_true hb.2; omega
      have hl : len = l.length := Nat.eq_of_mul_eq_mul_right hz (h4.symm.trans hlen)
      subst hl
      obtain ⟨b, off, arr, T, fr, rfl, hB, hbl, hcap, hc⟩ := h7 (by omega)
      obtain ⟨c1, c2, c3, he, h8, h9, _⟩ := Bt.get (fun x c h => Ax.len h) h2 hj2
      have h10 : c2.length = e.size := h9.len
      have h11 : (j.toNat + 1) * e.size ≤ l.length * e.size := Nat.mul_le_mul_right _ hj1
      rw [Nat.succ_mul] at h11
      have hp : Be4 (fun b => A b ∧ Z.R b) w (.pointer (some ⟨b, off + j.toNat * e.size, none⟩)) c2 := by
       refine ⟨b, off + j.toNat * e.size, arr, T, fr, rfl, hB, hbl, fun q hq => ?_⟩
       rw [Nat.add_assoc, hc _ (by omega), he, List.getElem?_append_right (by omega), h8, show j.toNat * e.size + q - j.toNat * e.size = q by omega, List.getElem?_append_left hq]
      have hvr : Eg (fun b => A b ∧ Z.R b) w L (.rptr (e.pv y)) (.pointer (some ⟨b, off + j.toNat * e.size, none⟩)) := ⟨_, c2, rfl, hp, Anc.2 h9⟩
      exact Dk hr hd (Vh ht (Em hinf hb.1) h3 hix (by omega) (by omega) w) rfl hvr h
     ·cases h
    ·rename_i i hx
     split at h
     ·rename_i E e l hi
      obtain ⟨hb, h⟩ := Az h
      simp only [Bool.and_eq_true] at hb
      obtain ⟨y, hy, h⟩ := bind_some h
      obtain ⟨hj0, hj1, hj2⟩ := Jk hy
      obtain ⟨v, cs, h1, h2⟩ := hm.arr hi
      obtain ⟨z', E', c', h3⟩ := Ahm (Cr hm.sl hx rfl)
      rw [h1] at h3; cases h3
      have hlen := h2.len fun x c h => Ax.len h
      have hz : 0 < e.size := by have := Nat.le_of_ble_eq_true hb.2; omega
      have hpos : 0 < cs.length := by rw [hlen]; exact Nat.mul_pos (by omega) hz
      obtain ⟨b, len, cap, h4, h5⟩ := hr.base h1 hpos
      have hl : len = l.length := Nat.eq_of_mul_eq_mul_right hz (h5.symm.trans hlen)
      subst hl
      have := Vh ht (Em hinf hb.1) h4 hix (by omega) (by omega) w
      refine Dk hr hd this rfl ?_ h
      rw [show (0 : Nat) + j.toNat * e.size = Ar [.idx j e.size] by simp [Ar, As6]]
      refine Ah3 h1 ?_
      rw [h4]; rfl
     ·cases h
    ·rename_i o i p e lo n' hx
     obtain ⟨hb, h⟩ := Az h
     simp only [Bool.and_eq_true] at hb
     obtain ⟨_, hok, h⟩ := bind_some h
     have hj' : 0 ≤ j ∧ j < n' := of_decide_eq_true (Aa5 hok)
     obtain ⟨md, v1, h3, h4, k1, k2, ⟨pt, cap, k3, k4, k5, k6⟩, _⟩ := Cr hm.sl hx rfl
     have h6 : ev σ x = v1 := by simpa using h4
     obtain ⟨b, e1, rfl⟩ := k6 (by omega)
     have := Vh ht (Em hinf hb.1) (h6.trans k3) hix hj'.1 (by omega) w
     refine Dk hr hd this rfl ?_ h
     rw [show Ar p + lo.toNat * e.size + j.toNat * e.size = Ar (p ++ [.idx (lo + j) e.size]) by
      rw [Apk, Nat.add_assoc, ← Nat.add_mul]
      show _ = Ar p + (lo + j).toNat * e.size
      rw [Int.toNat_add k1 hj'.1]]
     exact Ah3 h3 e1
    ·cases h
  ·rename_i m et ht
   split at h
   ·cases h
   ·rename_i inf hinf
    split at h
    ·rename_i i p hx
     split at h
     ·rename_i T v hi
      split at h
      ·rename_i e0 l0 hg
       split at h
       ·rename_i m' e l
        obtain ⟨hb, h⟩ := Az h
        simp only [Bool.and_eq_true] at hb
        obtain ⟨y, hy, h⟩ := bind_some h
        obtain ⟨hj0, hj1, hj2⟩ := Jk hy
        obtain ⟨b, cells, h1, h2⟩ := hm.box hi
        obtain ⟨c1, c2, c3, he, h3, h4⟩ := Aoq hg h2
        obtain ⟨md, b', h5, h6, h7⟩ := Aa8 (Cr hm.sl hx rfl)
        rw [h1] at h5; cases h5; cases h6
        have hl : l.length = m := (show l.length = m' ∧ _ from h4).1.trans (Cf hb.2)
        have := Am5 ht (Em hinf hb.1.1) h7 hix (by omega) (by omega) w
        refine Dk hr hd this rfl ?_ h
        rw [show Ar p + j.toNat * e.size = Ar (p ++ [.idx j e.size]) by simp [Ak9, Ar, As6]]
        exact Ah3 h1 rfl
       ·cases h
      ·cases h
     ·cases h
    ·cases h
  ·cases h
def MD.cells : MD → List Value | .box _ c _ => c | .own _ _ _ c => c | .dead => []
theorem Rel.cells (hr : Rel Z s σs A L σ w) {i b : Nat} {md : MD} (h : L[i]? = some md) (hb : md.base = some b) : ∀ j, j < md.cells.length → w.cell? ⟨b, j, none⟩ = md.cells[j]? := by
 intro j hj
 cases md with
 | dead => cases hb
 | box b' cells T => cases hb; rw [cell_of (St.box hr (hr.Jv h))]; simp [MD.cells]
 | own z E v cells =>
  obtain ⟨b', m, c, hv, hs'⟩ := St.Be0 hr (hr.Jv h) (by simp [MD.cells] at hj; omega)
  subst hv
  cases hb
  obtain ⟨o, rfl, h2⟩ := Mobs.mem (A := A) hs'.mobs (i := i) (m := .at_ b z E m c cells) (by rw [List.getElem?_set_self (by simpa using (List.getElem?_eq_some_iff.1 h).1)])
  obtain ⟨_, len, cap, e, h3, _, _, _, h6⟩ := h2
  obtain ⟨arr, fr, _, hb, _, _, hc⟩ := h6 b rfl
  rw [cell_of hb]
  exact hc j (by rw [← h3]; exact hj)
theorem Arf {t : TypeId} {u : PV} {x : Operand} {c2 : List Value} {b off : Nat} {B : Reg} (h : OkLoad P t u) (hu : EncC B w L u c2)
  (hx : ev σ x = .pointer (some ⟨b, off, none⟩)) : ∃ val, Iw B w L u val ∧ ∀ w' : World, (∀ j, j < c2.length → w'.cell? ⟨b, off + j, none⟩ = c2[j]?) → XO P σ w' (.load t x) val := by
 obtain ⟨d, hd, ha⟩ := h.agg
 have hlen := hu.len
 cases hA : u.isA with
 | true =>
  refine ⟨.agg c2.toArray, by unfold Iw; rw [hA]; exact ⟨c2, rfl, hu⟩, fun w' hc _ _ _ _ _ => ?_⟩
  have h1 := Mm (P := P) (w := w') (b := b) (off := off) c2 hc
  rw [hlen] at h1
  simp only [execOp, hx, Instr.loadAt, Instr.sureAddr, Sem.run_bind, Sem.run_pure, Result.andThen_ok, loadVar, Ee hd (ha.trans hA), if_true, Bj h.size, h1]
 | false =>
  have h1 := h.one hA
  rw [h1] at hlen
  match c2, hlen with
  | [v], _ =>
   refine ⟨v, by unfold Iw; rw [hA]; exact hu, fun w' hc _ _ _ _ _ => ?_⟩
   have h2 : w'.cell? ⟨b, off, none⟩ = some v := by simpa using hc 0 (by simp)
   simp only [execOp, hx, Instr.loadAt, Instr.sureAddr, Sem.run_bind, Sem.run_pure, Result.andThen_ok, loadVar, Ee hd (ha.trans hA), Bool.false_eq_true, if_false, Ag1 h2]
theorem Bbq {t : TypeId} {u : PV} {x : Operand} {c2 : List Value} {b off : Nat} {B : Reg} (h : OkLoad P t u) (hu : EncC B w L u c2) (hc : ∀ j, j < c2.length → w.cell? ⟨b, off + j, none⟩ = c2[j]?)
  (hx : ev σ x = .pointer (some ⟨b, off, none⟩)) : ∃ val, Iw B w L u val ∧ XO P σ w (.load t x) val := by
 obtain ⟨val, h1, h2⟩ := Arf (P := P) (σ := σ) h hu hx
 exact ⟨val, h1, h2 w hc⟩
def Bxu : Item → MD → Prop | .box T _, md => ∃ b c, md = .box b c T | .arr E e _, md => ∃ v c, md = .own e.size E v c | .dead, _ => False
def Abd (off : Nat) (ns : List Value) : MD → MD → Prop
 | .box b c T, md' => md' = .box b (Bb c off ns) T
 | .own z E v c, md' => md' = .own z E v (Bb c off ns)
 | .dead, _ => False
theorem MemR.root {B : Reg} (hm : MemR B w L s σs σ) {i : Nat} {md : MD} (h : L[i]? = some md) (hd : Cc s.it i ≠ .dead) : Att B w L (Cc s.it i) md.cells ∧ Bxu (Cc s.it i) md := by
 obtain ⟨md', h1, h2⟩ := hm.item rfl hd
 rw [h] at h1; cases h1
 revert h2 hd
 cases Cc s.it i with
 | dead => intro hd _; exact absurd rfl hd
 | box T v =>
  intro _ h2
  cases md with
  | box b c T' => obtain ⟨rfl, h3⟩ := h2; exact ⟨h3, b, c, rfl⟩
  | _ => exact h2.elim
 | arr E e l =>
  intro _ h2
  cases md with
  | own z E' v c => obtain ⟨rfl, rfl, h3⟩ := h2; exact ⟨h3, v, c, rfl⟩
  | _ => exact h2.elim
theorem Bu3 {t : TypeId} {x : Operand} {G : Prop} (hr : Rel Z s σs A L σ w) (hd : Ki n ⟨d, .load t x, ty, pos, after, none⟩ = true) (h : Blw P s d t x k = some r) :
  Adv P n ops ⟨d, .load t x, ty, pos, after, none⟩ Z s σs k r G A L σ w := by
 have hm := hr.mem
 unfold Blw at h
 split at h
 ·rename_i i p hx
  obtain ⟨md, b, h1, h2, h3⟩ := Aa8 (Cr hm.sl hx rfl)
  have hne : Cc s.it i ≠ .dead := by intro e; rw [e] at h; simp [getRoot] at h
  obtain ⟨h4, _⟩ := hm.root h1 hne
  obtain ⟨u, c1, c2, c3, hk, he, h5, h6⟩ := Bbo h h4
  obtain ⟨hb, hk⟩ := Az hk
  have hc := hr.cells h1 h2
  obtain ⟨val, h7, h8⟩ := Bbq (P := P) (σ := σ) (x := x) (b := b) (off := Ar p) (Rz hb) h6 (fun j hj => by
   rw [hc _ (by rw [he]; simp; omega), he, List.getElem?_append_right (by omega), h5, show Ar p + j - Ar p = j by omega, List.getElem?_append_left hj]) h3
  obtain ⟨hv, hv'⟩ := Kk h7
  exact Dk hr hd h8 hv hv' hk
 ·cases h
mutual
theorem EncC.one {B : Reg} : ∀ {p : PV} {cs : List Value}, EncC B w L p cs → L.all (fun m => match m with | .own _ _ v _ => v.oneCell' | _ => true) = true → ∀ v ∈ cs, v.oneCell' = true
 | .val e x, cs, h, _, v, hv => Ax.one (show Ax B w e x cs from h) v hv
 | .agg l, cs, h, hL, v, hv => EncC.Atg (show EncC.go B w L l cs from h) hL v hv
 | .tup _, _, h, _, _, _ => h.elim
 | .nils, cs, h, _, v, hv => by rw [show cs = _ from h] at hv; simp at hv; subst hv; rfl
 | .own i, cs, ⟨z, E, u, c, h1, h2⟩, hL, v, hv => by
  rw [h2] at hv; simp at hv; subst hv
  exact List.all_eq_true.1 hL _ (List.mem_of_getElem? h1)
 | .ptr i p, cs, ⟨_, _, _, _, h⟩, _, v, hv => by rw [h] at hv; simp at hv; subst hv; rfl
 | .rptr q, cs, ⟨pv, _, h, ⟨_, _, _, _, _, e, _⟩, _⟩, _, v, hv => by rw [h] at hv; simp at hv; subst hv; rw [e]; rfl
 | .fn f caps, cs, ⟨_, h, _⟩, _, v, hv => by rw [h] at hv; simp at hv; subst hv; rfl
 | .cst u, cs, h, _, v, hv => by rw [show cs = _ from h.1] at hv; simp at hv; subst hv; exact h.2
 | .any, cs, ⟨u, h, h'⟩, _, v, hv => by rw [h] at hv; simp at hv; subst hv; exact h'
 | .view _ _ _ _ _ _, cs, ⟨_, u, _, h, _, _, ⟨_, _, e, _⟩, _⟩, _, v, hv => by rw [h] at hv; simp at hv; subst hv; rw [e]; rfl
 | .gd _ _ _, _, h, _, _, _ => h.elim
 | .off, _, h, _, _, _ => h.elim
 | .undef, _, h, _, _, _ => h.elim
theorem EncC.Atg {B : Reg} : ∀ {l : List PV} {cs : List Value}, EncC.go B w L l cs → L.all (fun m => match m with | .own _ _ v _ => v.oneCell' | _ => true) = true → ∀ v ∈ cs, v.oneCell' = true
 | [], cs, h, _, v, hv => by rw [show cs = [] from h] at hv; simp at hv
 | a :: q, cs, ⟨c1, c2, e, h1, h2⟩, hL, v, hv => by
  subst e
  rcases List.mem_append.1 hv with hv | hv
  ·exact EncC.one h1 hL v hv
  ·exact EncC.Atg h2 hL v hv
end
theorem Rel.Atg (hr : Rel Z s σs A L σ w) : L.all (fun m => match m with | .own _ _ v _ => v.oneCell' | _ => true) = true := by
 refine List.all_eq_true.2 fun m hm => ?_
 obtain ⟨i, hi, he⟩ := List.getElem_of_mem hm
 cases m with
 | own z E v c =>
  obtain ⟨p, len, cap, rfl, _⟩ := hr.Yh (i := i) (by rw [List.getElem?_eq_getElem hi, he])
  rfl
 | _ => rfl
theorem Ak3 {p : PV} {v : Value} {B : Reg} (hr : Rel Z s σs A L σ w) (h : Iw B w L p v) : ∃ cs : List Value, v.cells = cs.toArray ∧ EncC B w L p cs := by
 unfold Iw asV at h
 split at h
 ·obtain ⟨cs, rfl, h⟩ := h; exact ⟨cs, rfl, h⟩
 ·refine ⟨[v], ?_, h⟩
  have := h.one hr.Atg v (.head _)
  cases v <;> first | rfl | cases this
theorem LeL.own {i z : Nat} {E : TypeId} {v : Value} {cs cs' : List Value} (h : L[i]? = some (.own z E v cs)) : LeL L (L.set i (.own z E v cs')) :=
 LeL.set h (fun _ _ _ _ e => by cases e; exact ⟨_, _, _, rfl⟩) (fun b hb => by
  unfold MD.base at hb ⊢
  split at hb
  ·rename_i e; cases e
  ·rename_i e; cases e; exact hb
  ·cases hb)
theorem LeL.box {i b : Nat} {T : TypeId} {cs cs' : List Value} (h : L[i]? = some (.box b cs T)) : LeL L (L.set i (.box b cs' T)) :=
 LeL.set h (fun _ _ _ _ e => by cases e) (fun b hb => hb)
theorem Be7 {i : Nat} {md : MD} (h : L[i]? = some md) : (L.map MD.Jv)[i]? = some md.Jv := by simp [h]
theorem Bn9 {t : TypeId} {a x : Operand} {i b off z : Nat} {md : MD} {v : Value} {ns : List Value} {K : Env → World → Prop} {F : List Fact} (hr : St A w F (L.map MD.Jv)) (h : L[i]? = some md) (hb : md.base = some b)
  (hsz : SizeIs P t z) (ha : ev σ a = .pointer (some ⟨b, off, none⟩)) (hx : ev σ x = v) (hv : v.cells = ns.toArray) (hl : ns.length = z) (h1 : ns.all (·.oneCell') = true) (hle : off + z ≤ md.cells.length) (hz : 0 < z)
  (hK : ∀ (w' : World) (md' : MD), St A w' F ((L.map MD.Jv).set i md'.Jv) → Abd off ns md md' → K σ w') :
  WL P n ops [⟨none, .store t a x, ty, pos, after, none⟩] K σ w := by
 cases md with
 | dead => cases hb
 | box b' cells T =>
  cases hb
  exact WL.Bo6 hr (Be7 h) hsz ha hx hv hl h1 (by simpa [Nat.ble_eq, MD.cells] using hle) rfl rfl (fun w' hs' => WL.nil (hK w' (.box b (Bb cells off ns) T) hs' rfl))
 | own z' E u cells =>
  obtain ⟨b', m, c, hu, hs'⟩ := St.Be0 hr (Be7 h) (by simp [MD.cells] at hle; omega)
  subst hu
  cases hb
  have hlen : i < (L.map MD.Jv).length := by simpa using (List.getElem?_eq_some_iff.1 h).1
  have hL1 : ((L.map MD.Jv).set i (.at_ b z' E m c cells))[i]? = some (.at_ b z' E m c cells) := by rw [List.getElem?_set_self hlen]
  refine WL.Bsp hs' hL1 hsz ha hx hv hl h1 hle rfl rfl (fun w' hs2 => WL.nil ?_)
  have hs3 := hs2.Bz1 (i := i) (b := b) (s := z') (m := m) (c := c) (E := E) (cs := Bb cells off ns) (by rw [List.getElem?_set_self (by simpa using hlen)])
  rw [List.set_set, List.set_set] at hs3
  exact hK w' (.own z' E (.slice (some ⟨b, 0, none⟩) m c) (Bb cells off ns)) hs3 rfl
end Go.Rx
set_option linter.unusedVariables false
set_option linter.unusedSimpArgs false
namespace Go.Rx
open Go Go.Lv
variable {P : Program} {B : Reg} {w w' : World} {L L' : List MD} {s : S} {σs : List Env} {σ : Env} {Z : Fix} {A A' : Reg} {n : Nat} {ops : Array Oper} {rest : List Oper} {K : Env → World → Prop}
variable {R : Type} {k : S → Option R} {r : R} {d : Option Nat} {ty : TypeId} {pos : String} {after : Array Edge}
structure Frz (B : Reg) (w : World) (L : List MD) (i : Nat) (m : PV) : Prop where
 enc : ∀ z E v c, L[i]? = some (.own z E v c) → EncC B w (L.set i .dead) m [v]
 isA : m.isA = false
 isV : m.isV = true
theorem Bdr {i : Nat} {m p : PV} (hm : m.isA = false) : (subst i m p).isA = p.isA := by
 cases p <;> try rfl
 ·rename_i j
  simp only [subst]
  cases hb : Nat.beq i j with
  | true => exact hm
  | false => rfl
 ·rename_i j q
  simp only [subst]
  cases hb : Nat.beq i j <;> rfl
 ·rename_i o j q e lo n
  simp only [subst]
  cases hb : Nat.beq i j <;> rfl
theorem Asg {i j : Nat} (h : Nat.beq i j = false) : (L.set i .dead)[j]? = L[j]? := by
 rw [List.getElem?_set_ne]
 intro e; subst e; simp at h
mutual
theorem Ann {i : Nat} {m : PV} (hf : Frz B w L i m) : ∀ {p : PV} {cs : List Value}, EncC B w L p cs → EncC B w (L.set i .dead) (subst i m p) cs
 | .val _ x, cs, h => h
 | .agg q, cs, h => Azh hf (show EncC.go B w L q cs from h)
 | .tup _, _, h => h.elim
 | .nils, cs, h => h
 | .own j, cs, ⟨z, E, v, c, h1, h2⟩ => by
  simp only [subst]
  cases hb : Nat.beq i j with
  | true =>
   have := Cf hb
   subst this
   rw [h2]; exact hf.enc _ _ _ _ h1
  | false => exact ⟨z, E, v, c, by rw [Asg hb]; exact h1, h2⟩
 | .ptr j q, cs, ⟨md, b, h1, h2, h3⟩ => by
  simp only [subst]
  cases hb : Nat.beq i j with
  | true => exact ⟨_, h3, rfl⟩
  | false => exact ⟨md, b, by rw [Asg hb]; exact h1, h2, h3⟩
 | .view o j q e lo n, cs, ⟨md, v, h1, h2, h3⟩ => by
  simp only [subst]
  cases hb : Nat.beq i j with
  | true =>
   obtain ⟨_, _, ⟨pt, cap, e', _⟩, _⟩ := h3
   exact ⟨v, h2, by rw [e']; rfl⟩
  | false => exact ⟨md, v, by rw [Asg hb]; exact h1, h2, h3⟩
 | .rptr v, cs, ⟨pv, c0, h1, h2, h3⟩ => by
  exact ⟨pv, c0, h1, h2, Ann hf h3⟩
 | .fn f caps, cs, ⟨vs, h1, h2⟩ => ⟨vs, h1, At5 hf h2⟩
 | .cst v, cs, h => h
 | .any, cs, h => h
 | .gd _ _ _, _, h => h.elim
 | .off, _, h => h.elim
 | .undef, _, h => h.elim
theorem Azh {i : Nat} {m : PV} (hf : Frz B w L i m) : ∀ {q : List PV} {cs : List Value}, EncC.go B w L q cs → EncC.go B w (L.set i .dead) (subst.go i m q) cs
 | [], cs, h => h
 | a :: q, cs, ⟨c1, c2, e', h1, h2⟩ => ⟨c1, c2, e', Ann hf h1, Azh hf h2⟩
theorem At5 {i : Nat} {m : PV} (hf : Frz B w L i m) : ∀ {q : List PV} {vs : List Value}, EncVs B w L q vs → EncVs B w (L.set i .dead) (subst.go i m q) vs
 | [], vs, h => h
 | a :: q, vs, ⟨v, vs', e', h1, h2⟩ => ⟨v, vs', e', by rw [Bdr hf.isA]; exact h1.mono fun c h => Ann hf h, At5 hf h2⟩
end
theorem Bix {i : Nat} {m : PV} (hf : Frz B w L i m) {p : PV} {v : Value} (h : Iw B w L p v) : Iw B w (L.set i .dead) (subst i m p) v := by
 unfold Iw; rw [Bdr hf.isA]; exact asV.mono (fun c h => Ann hf h) h
theorem Bb5 {i : Nat} {m : PV} (hf : Frz B w L i m) {p : PV} {v : Value} (h : Eg B w L p v) : Eg B w (L.set i .dead) (subst i m p) v := by
 cases hp : p.isP with
 | true => exact (Kk (Bix hf ((Arh hp).1 h))).2
 | false =>
  cases p
  case tup q => obtain ⟨vs, h1, h2⟩ := h; exact ⟨vs, h1, At5 hf h2⟩
  case undef => exact (show False from h).elim
  case off => exact (show False from h).elim
  case gd => exact (show False from h).elim
  all_goals cases hp
theorem Bhy {i : Nat} {m : PV} (hf : Frz B w L i m) {t : Nat} {p : PV} (h : Jt B w L σ t p) : Jt B w (L.set i .dead) σ t (subst i m p) := by
 cases hv : p.isV with
 | true =>
  have h1 := Bb5 hf ((Jt.iff hv).1 h)
  have h2 : (subst i m p).isV = true := by
   cases p <;> first | rfl | cases hv | skip
   ·rename_i j; simp only [subst]; cases Nat.beq i j; rfl; exact hf.isV
   ·rename_i j q; simp only [subst]; cases Nat.beq i j <;> rfl
   ·rename_i o j q e lo n; simp only [subst]; cases Nat.beq i j <;> rfl
  exact (Jt.iff h2).2 h1
 | false =>
  rcases Acm hv with rfl | rfl | ⟨j, u, q, rfl⟩
  ·exact trivial
  ·exact h
  ·obtain ⟨b, h1, h2, h3⟩ := h
   exact ⟨b, h1, fun e => Bb5 hf (h2 e), h3⟩
theorem Avx {i : Nat} {m : PV} (hf : Frz B w L i m) {sl : Slots} (h : SlotsR B w L σ sl) : SlotsR B w (L.set i .dead) σ (Bmz i m sl) := by
 intro p hp
 obtain ⟨q, hq, rfl⟩ := List.mem_map.1 hp
 exact Bhy hf (h q hq)
theorem Avu {i : Nat} {m : PV} (hf : Frz B w L i m) : ∀ {σs : List Env} {st : List Slots}, StackR B w L σs st → StackR B w (L.set i .dead) σs (st.map (Bmz i m))
 | [], [], h => h
 | _ :: _, _ :: _, ⟨h1, h2⟩ => ⟨Avx hf h1, Avu hf h2⟩
theorem Bil {i : Nat} {m : PV} (hf : Frz B w L i m) {a : Item} {md : MD} (h : ItemR B w L a md) : ItemR B w (L.set i .dead) (Bmh i m a) md := by
 cases a <;> cases md <;> first
  | exact h
  | exact ⟨h.1, Ann hf h.2⟩
theorem MemR.subst (hm : MemR B w L s σs σ) {i : Nat} {m : PV} (hf : Frz B w L i m) : MemR B w (L.set i .dead) ((s.upd i .dead).sub i m) σs σ := by
 refine ⟨⟨?_, ?_⟩, Avx hf hm.sl, Avu hf hm.stk⟩
 ·simp [S.sub, S.upd, As8, hm.it.1]
 ·intro j a md g1 g2
  simp only [S.sub, S.upd, List.getElem?_map, Option.map_eq_some_iff] at g1
  obtain ⟨a0, g3, rfl⟩ := g1
  rcases Asr g3 with ⟨rfl, rfl⟩ | ⟨g4, g5⟩
  ·trivial
  ·rw [List.getElem?_set_ne (Ne.symm g4)] at g2
   exact Bil hf (hm.it.2 j a0 md g5 g2)
theorem Auy (hr : Rel Z s σs A L σ w) {i : Nat} {s' : S} (h : s.freeze i = some s') : ∃ A', Rel Z s' σs A' (L.set i .dead) σ w ∧ ∃ E e l, Cc s.it i = .arr E e l ∧ s' = (s.upd i .dead).sub i (.val (.list e) l) := by
 unfold S.freeze at h
 split at h
 ·rename_i E e l hi
  cases h
  have hm := hr.mem
  obtain ⟨v, cs, h1, h2⟩ := hm.arr hi
  have hR : ∀ b, ¬ A b → Z.R b := fun b hb => by
   rcases Nat.lt_or_ge b Z.w0.heap.size with hlt | hge
   ·have hold := (hr.fact 1 (f := .old Z.M Z.w0) rfl).2 b hlt
    exact Z.mod b (Classical.byContradiction fun hM => hb (hold hM).1)
   ·exact Z.new b hge
  obtain ⟨A', hA, hs'⟩ := St.freeze hr (hr.Jv h1) rfl Z.R hR
  have hs2 := Mobs.As4 (hs'.Bgj 1 0) (Ani (m' := MD.dead.Jv) (hr.Jv h1))
  have hm2 : MemR (fun b => A' b ∧ Z.R b) w L s σs σ := hs2.fact 1 rfl
  have hrd : Rd (fun b => A' b ∧ Z.R b) w e.size v cs := hs2.fact 0 (f := .rd Z.R e.size v cs) rfl
  have hall := h2.mono (g := Ax (fun b => A' b ∧ Z.R b) w e) fun x c h => Ax.step (fun b hb => ⟨hA b hb.1, hb.2⟩) (fun _ _ => rfl) h
  have hf : Frz (fun b => A' b ∧ Z.R b) w L i (.val (.list e) l) := ⟨fun z E' v' c' h => by rw [h1] at h; cases h; exact ⟨v, cs, rfl, hrd, hall⟩, rfl, rfl⟩
  exact ⟨A', Rel.as hs2 (i := 2) rfl (hm2.subst hf) (by rw [List.map_set]), E, e, l, hi, rfl⟩
 ·cases h
theorem Tr : ∀ {is : List Nat} {s s' : S} {A : Reg} {L : List MD}, Rel Z s σs A L σ w → s.Ad4 is = some s' → ∃ A' L', Rel Z s' σs A' L' σ w ∧ (is = [] → s' = s ∧ A' = A ∧ L' = L)
 | [], s, s', A, L, hr, h => by simp only [S.Ad4, Option.some.injEq] at h; subst h; exact ⟨A, L, hr, fun _ => ⟨rfl, rfl, rfl⟩⟩
 | i :: is, s, s', A, L, hr, h => by
  simp only [S.Ad4] at h
  split at h
  ·obtain ⟨A', L', h1, _⟩ := Tr hr h; exact ⟨A', L', h1, fun e => by cases e⟩
  ·cases h
  ·split at h
   ·rename_i s1 h1
    obtain ⟨A1, h2, _⟩ := Auy hr h1
    obtain ⟨A', L', h3, _⟩ := Tr h2 h
    exact ⟨A', L', h3, fun e => by cases e⟩
   ·cases h
theorem Bej {p : PV} (h : Ay4 p = true) : p.isP = true := by cases p <;> first | rfl | cases h
theorem Aok {B : Reg} {x : Operand} (hm : SlotsR B w L σ s.sl) (h : (Ej s.sl x).isP = true) : Iw B w L (Ej s.sl x) (ev σ x) := (Arh h).1 (Vs hm x (PV.Bdx h))
theorem Bg3 {a x : Operand} {s' : S} (hr : Rel Z s σs A L σ w) (h : Bci s a x = some s') : ∃ A' L', Rel Z s' σs A' L' σ w := by
 unfold Bci at h
 split at h
 ·split at h
  ·obtain ⟨A', L', h1, _⟩ := Tr hr h; exact ⟨A', L', h1⟩
  ·cases h; exact ⟨A, L, hr⟩
 ·cases h
theorem Att.step {B B' : Reg} {w w' : World} (hb : ∀ b, B b → B' b) (hs : Same B w w') (hl : LeL L L') {a : Item} {cs : List Value} (h : Att B w L a cs) : Att B' w' L' a cs := by
 cases a with
 | dead => exact h
 | box T v => exact EncC.step hb hs hl h
 | arr E e l => exact Bt.mono (fun x c h => Ax.step hb hs h) h
def Bcl (R : Reg) (L : List MD) (a : Item) (cs : List Value) : Fact where
 holds A w := Att (fun b => A b ∧ R b) w L a cs
 step h ha hs _ := h.step (fun b ⟨h1, h2⟩ => ⟨ha b h1, h2⟩) (fun b ⟨h1, _⟩ => hs b h1) (.refl L)
theorem Bsq {t : TypeId} {a x : Operand} (hr : Rel Z s σs A L σ w) (h : Bfd P s t a x k = some r) :
  Adv P n ops ⟨none, .store t a x, ty, pos, after, none⟩ Z s σs k r False A L σ w := by
 unfold Bfd at h
 split at h
 ·cases h
 ·rename_i s1 hs1
  obtain ⟨A1, L1, hr1⟩ := Bg3 hr hs1
  have hm := hr1.mem
  split at h
  ·rename_i i p ha
   split at h
   ·rename_i inf hinf
    obtain ⟨hb, h⟩ := Az h
    simp only [Bool.and_eq_true] at hb
    obtain ⟨md, b, h1, h2, h3⟩ := Aa8 (Cr hm.sl ha rfl)
    obtain ⟨ns, h4, h5⟩ := Ak3 hr1 (Aok hm.sl (Bej hb.1.1))
    have hne : Cc s1.it i ≠ .dead := by intro e; rw [e] at h; simp [Ayo] at h
    obtain ⟨h6, h7⟩ := hm.root h1 hne
    obtain ⟨a', hk, h8, h9, h10⟩ := Bk0 h5 h h6
    have hlen := h5.len
    have hz := Cf hb.1.2
    have hz0 : 0 < inf.size := by simpa [Nat.blt_eq] using hb.2
    have hrF := St.Avr (f := Bcl Z.R L1 a' (Bb md.cells (Ar p) ns)) hr1 h9
    refine Bn9 hrF h1 h2 ⟨inf, hinf, rfl⟩ h3 rfl h4 (hlen.trans hz.symm) (List.all_eq_true.2 (h5.one hr1.Atg)) (by rw [hz, ← hlen]; exact h8) hz0 (fun w' md' hs' hmd => ?_)
    have h11 : Att (fun b => A1 b ∧ Z.R b) w' L1 a' (Bb md.cells (Ar p) ns) := hs'.fact 0 rfl
    have hs2 := hs'.Axj
    revert h7 h10
    cases hi : Cc s1.it i with
    | dead => exact absurd hi hne
    | box T v0 =>
     rintro ⟨b0, c0, rfl⟩ h10
     simp only [Abd] at hmd; subst hmd
     have key := LeL.box (cs' := Bb (MD.box b0 c0 T).cells (Ar p) ns) h1
     refine ⟨_, A1, _, hk, Rel.change hs2 h1 key ?_, fun h => h.elim⟩
     cases a' with
     | box T' v' => simp only [sameKind] at h10; subst h10; exact ⟨rfl, EncC.step (fun _ h => h) (fun _ _ => rfl) key h11⟩
     | dead => exact h11.elim
     | arr _ _ _ => exact h10.elim
    | arr E e l =>
     rintro ⟨v0, c0, rfl⟩ h10
     simp only [Abd] at hmd; subst hmd
     have key := LeL.own (cs' := Bb (MD.own e.size E v0 c0).cells (Ar p) ns) h1
     refine ⟨_, A1, _, hk, Rel.change hs2 h1 key ?_, fun h => h.elim⟩
     cases a' with
     | arr E' e' l' => obtain ⟨rfl, rfl⟩ := h10; exact ⟨rfl, rfl, h11⟩
     | dead => exact h11.elim
     | box _ _ => exact h10.elim
   ·cases h
  ·cases h
end Go.Rx
set_option linter.unusedVariables false
set_option linter.unusedSimpArgs false
namespace Go.Rx
open Go Go.Lv
variable {P : Program} {B : Reg} {w w' : World} {L L' : List MD} {s : S} {σs : List Env} {σ : Env} {Z : Fix} {A A' : Reg} {n : Nat} {ops : Array Oper} {rest : List Oper} {K : Env → World → Prop}
variable {R : Type} {k : S → Option R} {r : R} {d : Option Nat} {ty : TypeId} {pos : String} {after : Array Edge}
theorem All {t : TypeId} {p : PV} (h : zeroOf P t = some p) : ∃ z, (∃ i, P.info? t = some i ∧ i.zero = some z) ∧ ∀ (B : Reg) (w : World) (L : List MD), EncC B w L p z.cells.toList := by
 unfold zeroOf at h
 split at h
 ·rename_i i hi
  split at h
  ·rename_i z hz
   exact ⟨z, ⟨i, hi, hz⟩, fun B w L => Auh h⟩
  ·cases h
 ·cases h
theorem Bnp {md : MD} {b : Nat} (hb : md.base = some b) {B : Reg} : Eg B w (L ++ [md]) (.ptr L.length []) (.pointer (some ⟨b, 0, none⟩)) := ⟨md, b, by simp, hb, rfl⟩
theorem Ay2 {z : Nat} {E : TypeId} {v : Value} {c : List Value} {B : Reg} : Eg B w (L ++ [.own z E v c]) (.own L.length) v := ⟨z, E, v, c, by simp, rfl⟩
theorem Rel.len (hr : Rel Z s σs A L σ w) : s.it.length = L.length := hr.mem.it.1
theorem Rel.lt (hr : Rel Z s σs A L σ w) : ∀ b, A b → b < w.heap.size := St.lt hr
def Bsz (A0 : Reg) (w0 : World) : Fact where
 holds A w := (∀ b, A0 b → A b) ∧ Same A0 w0 w
 step h ha hs _ := ⟨fun b hb => ha b (h.1 b hb), fun b hb => (hs b (h.1 b hb)).trans (h.2 b hb)⟩
theorem Rel.same (hr : Rel Z s σs A L σ w) : St A w [Bsz A w, Ayk Z.R L s σs σ, .old Z.M Z.w0] (L.map MD.Jv) := St.Avr (f := Bsz A w) hr ⟨fun _ h => h, fun _ _ => rfl⟩
theorem Arr {w' : World} {A' : Reg} {a : Item} {md : MD} {p : PV} {v : Value} {dn : Nat} {G : Prop} (hr : Rel Z s σs A L σ w) (hs : St A' w' [Bsz A w, Ayk Z.R L s σs σ, .old Z.M Z.w0] (md.Jv :: L.map MD.Jv))
  (ha : ItemR (fun b => A' b ∧ Z.R b) w' (L ++ [md]) a md) (hv : p.isV = true) (hp : ∀ B, Eg B w' (L ++ [md]) p v) (hk : k ((s.add a).Gy (some dn) p) = some r) :
  Bcy Z σs k r G A L s.it w (upd σ dn v) w' := by
 obtain ⟨h1, h2⟩ : (∀ b, A b → A' b) ∧ Same A w w' := hs.fact 0 rfl
 have hr' := Rel.push hs.Axj ha
 exact ⟨_, A', L ++ [md], hk, hr'.Gy (d := some dn) hv (hp _), fun _ => ⟨h1, h2, ⟨[md], rfl⟩, ⟨[a], rfl⟩⟩⟩
theorem Aoz {o : Op} {dn : Nat} (h : Ki n ⟨some dn, o, ty, pos, after, none⟩ = true) : Nat.blt dn n = true := h
theorem Bqp {t : TypeId} {v : PV} {dn : Nat} {G : Prop} (hr : Rel Z s σs A L σ w) (hd : Ki n ⟨some dn, .alloc t, ty, pos, after, none⟩ = true) (hz : zeroOf P t = some v)
  (hk : k ((s.add (.box t v)).Gy (some dn) (.ptr s.new [])) = some r) : Adv P n ops ⟨some dn, .alloc t, ty, pos, after, none⟩ Z s σs k r G A L σ w := by
 obtain ⟨z, h1, h2⟩ := All hz
 refine WL.alloc (cells := z.cells.toList) hr.same (Aoz hd) h1 (by simp) (fun b w' hs' => WL.nil ?_)
 refine Arr (a := .box t v) (md := .box b z.cells.toList t) hr hs' ⟨rfl, h2 _ _ _⟩ rfl (fun B => ?_) hk
 rw [S.new, hr.len]; exact Bnp rfl
theorem Bya {t : TypeId} {x : Operand} {dn : Nat} {G : Prop} (hr : Rel Z s σs A L σ w) (hd : Ki n ⟨some dn, .box t x, ty, pos, after, none⟩ = true) (hx : Ay4 (Ej s.sl x) = true)
  (hk : k ((s.add (.box t (Ej s.sl x))).Gy (some dn) (.ptr s.new [])) = some r) : Adv P n ops ⟨some dn, .box t x, ty, pos, after, none⟩ Z s σs k r G A L σ w := by
 obtain ⟨cs, h1, h2⟩ := Ak3 hr (Aok hr.mem.sl (Bej hx))
 have hF := St.Avr (f := Bcl Z.R L (.box t (Ej s.sl x)) cs) hr.same h2
 refine WL.box hF (Aoz hd) rfl h1 (fun b w' hs' => WL.nil ?_)
 have h3 : Att (fun b => A b ∧ Z.R b) w' L (.box t (Ej s.sl x)) cs := hs'.fact 0 rfl
 refine Arr (a := .box t (Ej s.sl x)) (md := .box b cs t) hr hs'.Axj ⟨rfl, EncC.step (fun _ h => h) (fun _ _ => rfl) (LeL.append _ _) h3⟩ rfl (fun B => ?_) hk
 rw [S.new, hr.len]; exact Bnp rfl
theorem Blr {a t e : TypeId} {x : Operand} {l : List UInt8} {dn : Nat} {G : Prop} (hr : Rel Z s σs A L σ w) (hd : Ki n ⟨some dn, .convert a t x, ty, pos, after, none⟩ = true) (ha : P.underlying a = some .string) (ht : P.underlying t = some (.slice e))
  (he : P.underlying e = some (.int .u8)) (hx : Ej s.sl x = .val .str l) (hk : k ((s.add (.arr e (.int .u8) l)).Gy (some dn) (.own s.new)) = some r) : Adv P n ops ⟨some dn, .convert a t x, ty, pos, after, none⟩ Z s σs k r G A L σ w := by
 refine WL.s2b ha ht he hr.same (Aoz hd) (Xo hr.mem.sl hx) (fun p m c w' hs' => WL.nil ?_)
 refine Arr (a := .arr e (.int .u8) l) (md := .own 1 e (.slice p m c) (Ae2 l)) hr hs' ⟨rfl, rfl, Alc⟩ rfl (fun B => ?_) hk
 rw [S.new, hr.len]; exact Ay2
where Alc : ∀ {B : Reg} {w : World} {l : List UInt8}, Bt (Ax B w (.int .u8)) l (Ae2 l)
 | _, _, [] => rfl
 | _, _, x :: l => ⟨[iv x], Ae2 l, rfl, rfl, Alc⟩
theorem Bt8 {t e E : TypeId} {x : Operand} {i : Nat} {y : UInt8} {ys : List UInt8} {dn : Nat} {G : Prop} (hr : Rel Z s σs A L σ w) (hd : Ki n ⟨some dn, .convert t t x, ty, pos, after, none⟩ = true) (ht : P.underlying t = some (.slice e))
  (he : P.underlying e = some (.int .u8)) (hx : Ej s.sl x = .own i) (hi : Cc s.it i = .arr E (.int .u8) (y :: ys)) (hk : k (s.Gy (some dn) (.own i)) = some r) : Adv P n ops ⟨some dn, .convert t t x, ty, pos, after, none⟩ Z s σs k r G A L σ w := by
 obtain ⟨v, cs, h1, h2⟩ := hr.mem.arr hi
 have hne : 0 < cs.length := by
  obtain ⟨c, c', e1, e2, _⟩ := h2
  rw [e1, List.length_append]
  have : c.length = (ET.int .u8).size := Ax.len e2
  rw [this]
  have : (ET.int Kd.u8).size = 1 := rfl
  omega
 have hvr : Eg (fun b => A b ∧ Z.R b) w L (.own i) (ev σ x) := by
  have := Cr hr.mem.sl hx rfl
  exact this
 have hev : ev σ x = v := by
  obtain ⟨z, E', v', c, g1, g2⟩ := hvr
  rw [h1] at g1
  cases g1
  simpa using g2
 have hL : (L.map MD.Jv)[i]? = some (.own 1 E v cs) := by rw [List.getElem?_map, h1]; rfl
 refine WL.Bza ht he hr.same hL hne (Aoz hd) hev (fun w' hs' => WL.nil ?_)
 obtain ⟨g1, g2⟩ : (∀ b, A b → A b) ∧ Same A w w' := hs'.fact 0 rfl
 have hr' : Rel Z s σs A L σ w' := hs'.Axj
 exact ⟨_, A, L, hk, hr'.Gy (d := some dn) (p := .own i) rfl ⟨_, _, _, _, h1, rfl⟩, fun _ => ⟨g1, g2, ⟨[], by simp⟩, ⟨[], by simp [S.Gy, S.set]⟩⟩⟩
theorem Awg {t : TypeId} {e : ET} (h : Azi P t e = true) : ElemOk P t e.size := by
 unfold Azi at h
 split at h
 ·rename_i i hi
  simp only [Bool.and_eq_true] at h
  obtain ⟨⟨⟨h1, h2⟩, h3⟩, h4⟩ := h
  split at h3
  ·rename_i z hz
   exact ⟨⟨i, z, hi, Cf h1, hz, Cf h3, Nat.le_of_ble_eq_true h2⟩, by have := Nat.le_of_ble_eq_true h4; omega⟩
  ·cases h3
 ·cases h
theorem Asq {t E : TypeId} (h : Aw9 P t = some E) : P.underlying t = some (.slice E) := by
 unfold Aw9 at h
 split at h
 ·rename_i e he; cases h; exact he
 ·cases h
theorem Be9 {e : ET} {x : e.T} {c : List Value} (h : Ax B w e x c) : ∀ m, Bt (Ax B w e) (List.replicate m x) (List.replicate m c).flatten
 | 0 => rfl
 | m + 1 => ⟨c, (List.replicate m c).flatten, rfl, h, Be9 h m⟩
theorem Bt9 {t : TypeId} {a b : Operand} {dn : Nat} {G : Prop} (hr : Rel Z s σs A L σ w) (hd : Ki n ⟨some dn, .makeSlice t a b, ty, pos, after, none⟩ = true) (h : Bl1 P s (some dn) t a b k = some r) :
  Adv P n ops ⟨some dn, .makeSlice t a b, ty, pos, after, none⟩ Z s σs k r G A L σ w := by
 unfold Bl1 at h
 split at h
 ·cases h
 ·rename_i E hE
  split at h
  ·cases h
  ·rename_i e he
   obtain ⟨hb, h⟩ := Az h
   split at h
   ·rename_i m m' z hm hm' hz
    split at h
    ·rename_i x hx
     obtain ⟨l, hl, h⟩ := bind_some h
     obtain ⟨_, hq, h⟩ := bind_some h
     obtain ⟨h1, h2, rfl⟩ := Bjw hl
     have h3 : m' = m := by have := Aa5 hq; simpa [geq, GI.toZ] using this
     subst h3
     obtain ⟨zv, hz1, hz2⟩ := All hz
     have ea := Bao hm (Vs hr.mem.sl a (Be5 hm))
     have eb := Bao hm' (Vs hr.mem.sl b (Be5 hm'))
     refine WL.makeSlice (Asq hE) (Awg hb) hz1 (zs := zv.cells.toList) (by simp) hr.same (Aoz hd) (m := m'.toNat) (by rw [← h1]; exact ea) (by rw [← h1]; exact eb) h2 (fun p q c w' hs' => WL.nil ?_)
     refine Arr (a := .arr E e (List.replicate m'.toNat x)) (md := .own e.size E (.slice p q c) (List.replicate m'.toNat zv.cells.toList).flatten) hr hs' ⟨rfl, rfl, Be9 (Akj hx (hz2 _ _ (L ++ []))) _⟩ rfl (fun B => ?_) h
     rw [S.new, hr.len]; exact Ay2
    ·cases h
   ·cases h
end Go.Rx
set_option linter.unusedVariables false
set_option linter.unusedSimpArgs false
namespace Go.Rx
open Go Go.Lv
variable {P : Program} {B : Reg} {w w' : World} {L L' : List MD} {s : S} {σs : List Env} {σ : Env} {Z : Fix} {A A' : Reg} {n : Nat} {ops : Array Oper} {rest : List Oper} {K : Env → World → Prop}
variable {R : Type} {k : S → Option R} {r : R} {d : Option Nat} {ty : TypeId} {pos : String} {after : Array Edge}
theorem Bcy.of {G : Prop} {s1 : S} {A1 : Reg} {L1 : List MD} {σ' : Env} (h : G → s1 = s ∧ A1 = A ∧ L1 = L) (hp : Bcy Z σs k r G A1 L1 s1.it w σ' w') : Bcy Z σs k r G A L s.it w σ' w' := by
 obtain ⟨s', A', L', h1, h2, h3⟩ := hp
 refine ⟨s', A', L', h1, h2, fun g => ?_⟩
 obtain ⟨e1, e2, e3⟩ := h g
 subst e1 e2 e3
 exact h3 g
theorem isEmpty_nil {α : Type} {l : List α} (h : l.isEmpty = true) : l = [] := by cases l <;> simp_all
theorem Bfq {z : Nat} (h : Nat.ble 1 z = true) : 0 < z := by have := Nat.le_of_ble_eq_true h; omega
theorem Rel.Byj (hr : Rel Z s σs A L σ w) {i z : Nat} {E : TypeId} {v : Value} {cs : List Value} (h : L[i]? = some (.own z E v cs)) :
  ∃ q len cap, v = .slice q len cap ∧ cs.length = len * z ∧ len ≤ cap ∧ (q = none → cap = 0) ∧ (0 < cap → ∃ b, q = some ⟨b, 0, none⟩ ∧ (MD.own z E v cs).base = some b) := by
 obtain ⟨o, q, len, cap, h1, h2, h3, h4, h5, h6⟩ := Mobs.mem (A := A) (St.mobs hr) (hr.Jv h)
 refine ⟨q, len, cap, h1, h2, h3, h4, fun hc => ?_⟩
 cases o with
 | none => have := h5 rfl; omega
 | some b =>
  obtain ⟨arr, fr, e1, _⟩ := h6 b rfl
  subst h1 e1
  exact ⟨b, rfl, rfl⟩
theorem X.Axh {t e : TypeId} {z len cap a b : Nat} {p : Option Addr} {x : Operand} {lo hi : Option Operand} (ht : P.underlying t = some (.slice e)) (hsz : SizeIs P e z) (h1 : a ≤ b) (h2 : b ≤ len) (h3 : len ≤ cap) (hx : ev σ x = .slice p len cap)
  (hlo : (∃ q, lo.map (ev σ) = some (.int q (a : Int))) ∨ (lo = none ∧ a = 0)) (hhi : (∃ q, hi.map (ev σ) = some (.int q (b : Int))) ∨ (hi = none ∧ b = len)) :
  XO P σ w (.slice t x lo hi none) (.slice (if cap = a then p else p.map (·.add (a * z))) (b - a) (cap - a)) := fun _ _ _ _ _ => by
 have hr := Bdh (P := P) (w := w) (p := p) (vlo := lo.map (ev σ)) (vhi := hi.map (ev σ)) ht hsz h1 h2 h3 (by rcases hlo with h | ⟨h, h'⟩; exact .inl h; exact .inr ⟨by rw [h]; rfl, h'⟩)
   (by rcases hhi with h | ⟨h, h'⟩; exact .inl h; exact .inr ⟨by rw [h]; rfl, h'⟩)
 simp only [execOp, hx, Instr.sliceAt, Sem.run_bind, run_underlying ht, Result.andThen_ok, Option.map_none, hr, Sem.run_pure]
theorem X.Bex {t u e : TypeId} {z m a b : Nat} {ad : Addr} {x : Operand} {lo hi : Option Operand} (ht : Bmb P t = some (u, m, e)) (hsz : SizeIs P e z) (h1 : a ≤ b) (h2 : b ≤ m) (hx : ev σ x = .pointer (some ad))
  (hlo : (∃ q, lo.map (ev σ) = some (.int q (a : Int))) ∨ (lo = none ∧ a = 0)) (hhi : (∃ q, hi.map (ev σ) = some (.int q (b : Int))) ∨ (hi = none ∧ b = m)) :
  XO P σ w (.slice t x lo hi none) (.slice (some (if m = a then ad else ad.add (a * z))) (b - a) (m - a)) := fun _ _ _ _ _ => by
 have hlo' : (∃ q, lo.map (ev σ) = some (.int q (a : Int))) ∨ (lo.map (ev σ) = none ∧ a = 0) := hlo.imp id fun h => ⟨by rw [h.1]; rfl, h.2⟩
 have hhi' : (∃ q, hi.map (ev σ) = some (.int q (b : Int))) ∨ (hi.map (ev σ) = none ∧ b = m) := hhi.imp id fun h => ⟨by rw [h.1]; rfl, h.2⟩
 unfold Bmb at ht
 split at ht
 ·rename_i m' et hu
  cases ht
  simp only [execOp, hx, Instr.sliceAt, Sem.run_bind, run_underlying hu, Result.andThen_ok, Option.map_none]
  generalize lo.map (ev σ) = vlo at hlo' ⊢
  generalize hi.map (ev σ) = vhi at hhi' ⊢
  clear hlo hhi
  rcases hlo' with ⟨q, rfl⟩ | ⟨rfl, rfl⟩ <;> rcases hhi' with ⟨q', rfl⟩ | ⟨rfl, rfl⟩ <;>
   simp [Instr.sureAddr, Instr.sliceBounds, Instr.sliceBound, asIntOf, Bj hsz, h1, h2]
 ·rename_i u' hp
  split at ht
  ·rename_i m' et hu
   cases ht
   simp only [execOp, hx, Instr.sliceAt, Sem.run_bind, run_underlying hp, Result.andThen_ok, Option.map_none]
   generalize lo.map (ev σ) = vlo at hlo' ⊢
   generalize hi.map (ev σ) = vhi at hhi' ⊢
   clear hlo hhi
   rcases hlo' with ⟨q, rfl⟩ | ⟨rfl, rfl⟩ <;> rcases hhi' with ⟨q', rfl⟩ | ⟨rfl, rfl⟩ <;>
    simp [Instr.slice, run_underlying hp, run_underlying hu, Instr.sliceBounds, Instr.sliceBound, asIntOf, Bj hsz, h1, h2, asAddr]
  ·cases ht
 ·cases ht
theorem Buc {t et : TypeId} {x : Operand} {lo hi : Option Operand} {G : Prop} (hr : Rel Z s σs A L σ w) (hd : Ki n ⟨d, .slice t x lo hi none, ty, pos, after, none⟩ = true) (ht : P.underlying t = some (.slice et)) (h : Bls P s d et (Ej s.sl x) lo hi k = some r) :
  Adv P n ops ⟨d, .slice t x lo hi none, ty, pos, after, none⟩ Z s σs k r G A L σ w := by
 have hm := hr.mem
 unfold Bls at h
 split at h
 ·cases h
 ·rename_i inf hinf
  split at h
  ·rename_i i hx
   split at h
   ·rename_i E e l hi'
    obtain ⟨hb, h⟩ := Az h
    simp only [Bool.and_eq_true] at hb
    split at h
    ·rename_i a b ha hb'
     obtain ⟨_, hok, h⟩ := bind_some h
     have hab : 0 ≤ a ∧ a ≤ b ∧ b ≤ Ac l := of_decide_eq_true (Aa5 hok)
     obtain ⟨u, cs, h1, h2⟩ := hm.arr hi'
     obtain ⟨z', E', c', h3⟩ := Ahm (Cr hm.sl hx rfl)
     rw [h1] at h3
     have h3' := h3
     cases h3
     obtain ⟨q, len, cap, g1, g2, g3, g4, g5⟩ := hr.Byj h1
     have hz : 0 < e.size := by have := Nat.le_of_ble_eq_true hb.2; omega
     have hl : len = l.length := Nat.eq_of_mul_eq_mul_right hz (g2.symm.trans (h2.len fun x c h => Ax.len h))
     obtain ⟨a1, ha1⟩ := Int.eq_ofNat_of_zero_le hab.1
     obtain ⟨b1, hb1⟩ := Int.eq_ofNat_of_zero_le (show 0 ≤ b by omega)
     subst ha1 hb1
     have hbl : b1 ≤ len := by rw [hl]; have := hab.2.2; unfold Ac at this; omega
     have hxo := X.Axh (P := P) (σ := σ) (w := w) (x := x) (lo := lo) (hi := hi) (a := a1) (b := b1) ht (Em hinf hb.1) (by omega) hbl g3 g1
      (by rcases Lt hm.sl ha with h | ⟨h, h'⟩; exact .inl h; exact .inr ⟨h, by omega⟩) (by rcases Lt hm.sl hb' with h | ⟨h, h'⟩; exact .inl h; exact .inr ⟨h, by unfold Ac at h'; omega⟩)
     rw [g1] at h1
     refine Dk (p := .view true i [] e a1 (b1 - a1)) hr hd hxo rfl ⟨_, _, h1, rfl, by omega, by omega, ⟨_, _, by rw [show ((b1 : Int) - a1).toNat = b1 - a1 by omega], by omega, fun hn => ?_, fun hc => ?_⟩,
      (fun _ => ⟨_, _, q, len, cap, cs, rfl, rfl, by omega, fun pt m c' hv => ?_, fun h0 => ?_⟩), (fun h => by cases h)⟩ h
     ·split at hn
      ·omega
      ·have : q = none := by simpa using hn
       have := g4 this; omega
     ·obtain ⟨bb, e1, e2⟩ := g5 (by omega)
      rw [g1] at e2
      refine ⟨bb, e2, ?_⟩
      rw [if_neg (by omega), e1]
      simp [Nl, Ar]
     ·cases hv
      simp only [Int.toNat_natCast]; omega
     ·have ha0 : a1 = 0 := by omega
      subst ha0
      rw [show ((b1 : Int) - (0 : Nat)).toNat = b1 by omega]
      simp only [Nat.sub_zero]
      congr 1
      split
      ·rfl
      ·by_cases hc : 0 < cap
       ·obtain ⟨bb, e1, _⟩ := g5 hc
        rw [e1]; simp [Nl]
       ·omega
    ·cases h
   ·cases h
  ·rename_i o i p e l0 n' hx
   obtain ⟨hb, h⟩ := Az h
   simp only [Bool.and_eq_true] at hb
   split at h
   ·rename_i a b ha hb'
    obtain ⟨_, hok, hk⟩ := bind_some h
    have hab : 0 ≤ a ∧ a ≤ b ∧ b ≤ n' := of_decide_eq_true (Aa5 hok)
    obtain ⟨md, v1, h3, h4, k1, k2, ⟨pt, cap, k3, k4, k5, k6⟩, k7, k8⟩ := Cr hm.sl hx rfl
    have h6 : ev σ x = v1 := by simpa using h4
    obtain ⟨a1, ha1⟩ := Int.eq_ofNat_of_zero_le hab.1
    obtain ⟨b1, hb1⟩ := Int.eq_ofNat_of_zero_le (show 0 ≤ b by omega)
    obtain ⟨l1, hl1⟩ := Int.eq_ofNat_of_zero_le k1
    obtain ⟨n1, hn1⟩ := Int.eq_ofNat_of_zero_le k2
    subst ha1 hb1 hl1 hn1
    simp only [Int.toNat_natCast] at k3 k4 k6 k7
    have hxo := X.Axh (P := P) (σ := σ) (w := w) (x := x) (lo := lo) (hi := hi) (a := a1) (b := b1) ht (Em hinf hb.1) (by omega) (by omega) k4 (h6.trans k3)
     (by rcases Lt hm.sl ha with h | ⟨h, h'⟩; exact .inl h; exact .inr ⟨h, by omega⟩) (by rcases Lt hm.sl hb' with h | ⟨h, h'⟩; exact .inl h; exact .inr ⟨h, by omega⟩)
    have e0 : ((l1 : Int) + a1).toNat = l1 + a1 := by omega
    refine Dk (p := .view o i p e (l1 + a1) (b1 - a1)) hr hd hxo rfl ⟨md, _, h3, rfl, by omega, by omega, ⟨_, _, by rw [show ((b1 : Int) - a1).toNat = b1 - a1 by omega], by omega, fun hn => ?_, fun hc => ?_⟩, (fun ho => ?_), k8⟩ hk
    ·split at hn
     ·omega
     ·have : pt = none := by simpa using hn
      have := k5 this; omega
    ·obtain ⟨bb, e1, e2⟩ := k6 (by omega)
     refine ⟨bb, e1, ?_⟩
     rw [if_neg (by omega), e2, e0]
     simp [Nl, Nat.add_mul, Nat.add_assoc]
    ·obtain ⟨s', E', q, len, cap0, c0, e1, e2, e3, e4, e5⟩ := k7 ho
     have e6 := e4 _ _ _ k3
     refine ⟨s', E', q, len, cap0, c0, e1, e2, by omega, fun pt' m c' hv => ?_, fun h0 => ?_⟩
     ·cases hv; omega
     ·have h00 : l1 = 0 ∧ a1 = 0 := by omega
      obtain ⟨rfl, rfl⟩ := h00
      have e7 := e5 rfl
      rw [k3] at e7
      cases e7
      rw [show ((b1 : Int) - (0 : Nat)).toNat = b1 by omega]
      simp only [Nat.sub_zero]
      congr 1
      split
      ·rfl
      ·by_cases hc : 0 < cap
       ·obtain ⟨bb, _, e8⟩ := k6 hc
        rw [e8]; simp [Nl]
       ·omega
   ·cases h
  ·cases h
theorem Bqc {t : TypeId} {x : Operand} {lo hi : Option Operand} {G : Prop} (hr0 : Rel Z s σs A L σ w) (hd : Ki n ⟨d, .slice t x lo hi none, ty, pos, after, none⟩ = true) {vw : Bool} (h : Bgl vw s d t x lo hi k P = some r) (hG : G → (owns (Ej s.sl x)).isEmpty = true) :
  Adv P n ops ⟨d, .slice t x lo hi none, ty, pos, after, none⟩ Z s σs k r G A L σ w := by
 unfold Bgl at h
 split at h
 ·rename_i ht
  split at h
  ·rename_i l hx
   split at h
   ·rename_i a b ha hb
    obtain ⟨y, hy, h⟩ := bind_some h
    exact Dk (p := .val .str y) hr0 hd (X.Bzu ht (Xo hr0.mem.sl hx) hy (Lt hr0.mem.sl ha) (Lt hr0.mem.sl hb)) rfl rfl h
   ·cases h
  ·cases h
 ·rename_i et ht
  cases hvw : (vw && Bi6 (Ej s.sl x)) with
  | true =>
   rw [hvw] at h
   exact Buc hr0 hd ht h
  | false =>
  rw [hvw] at h
  dsimp only [Ch, cond] at h
  split at h
  ·cases h
  ·rename_i s1 hs1
   obtain ⟨A1, L1, hr, hsame⟩ := Tr hr0 hs1
   have hm := hr.mem
   split at h
   ·rename_i e0 l0 hx
    split at h
    ·rename_i e l
     split at h
     ·rename_i inf hinf
      obtain ⟨hb, h⟩ := Az h
      simp only [Bool.and_eq_true] at hb
      split at h
      ·rename_i a b ha hb'
       obtain ⟨y, hy, h⟩ := bind_some h
       obtain ⟨h1, h2, h3, h4, rfl⟩ := Ajz hy
       obtain ⟨c0, h5, h6⟩ := Acf (Cr hm.sl hx rfl)
       have hlen := h6.len fun x c h => Ax.len h
       obtain ⟨p', l', c', h7, h8⟩ := X.Bih (P := P) (l := a.toNat) (k := b.toNat) (m := l.length) ht (Em hinf hb.1) (St.Bst hr h5) (j := 0) rfl hlen (Bfq hb.2) h3 h4
       have hxo := h7 σ w x lo hi rfl (by rcases Lt hm.sl ha with h | ⟨h, h'⟩; exact .inl (by rw [← h1]; exact h); exact .inr ⟨h, by omega⟩)
        (by rcases Lt hm.sl hb' with h | ⟨h, h'⟩; exact .inl (by rw [← h2]; exact h); exact .inr ⟨h, by rw [h']; simp [Ac]⟩)
       have hv : Eg (fun b => A1 b ∧ Z.R b) w L1 (.val (.list e) ((l.take b.toNat).drop a.toNat)) (.slice p' l' c') :=
        Asw (h8.fact 0 rfl) (Bt.drop (fun x c h => Ax.len h) _ (Bt.take (fun x c h => Ax.len h) _ h6))
       refine WL.Bla rfl hd (hxo _ _ _ _ _) (WL.nil ⟨_, A1, L1, h, hr.Gy rfl hv, fun g => ?_⟩)
       obtain ⟨e1, e2, e3⟩ := hsame (isEmpty_nil (hG g))
       subst e1 e2 e3
       have : (s1.Gy d (.val (.list e) ((l.take b.toNat).drop a.toNat))).it = s1.it := by cases d <;> rfl
       rw [this]; exact .refl
      ·cases h
     ·cases h
    ·cases h
   ·rename_i hx
    split at h
    ·rename_i inf a b hinf ha hb'
     obtain ⟨_, hok, hk⟩ := bind_some h
     have hab : 0 ≤ a ∧ a ≤ b ∧ b ≤ 0 := of_decide_eq_true (Aa5 hok)
     have ha0 : a = 0 := by omega
     have hb0 : b = 0 := by omega
     subst ha0 hb0
     have hv := Agf (Cr hm.sl hx rfl)
     have hxo := X.Axh (P := P) (σ := σ) (w := w) (x := x) (lo := lo) (hi := hi) (a := 0) (b := 0) (z := inf.size) ht ⟨inf, hinf, rfl⟩ (Nat.le_refl _) (Nat.le_refl _) (Nat.le_refl _) hv
      (by rcases Lt hm.sl ha with h | ⟨h, h'⟩; exact .inl h; exact .inr ⟨h, rfl⟩) (by rcases Lt hm.sl hb' with h | ⟨h, h'⟩; exact .inl h; exact .inr ⟨h, rfl⟩)
     refine WL.Bla rfl hd (hxo _ _ _ _ _) (WL.nil ⟨_, A1, L1, hk, hr.Gy rfl rfl, fun g => ?_⟩)
     obtain ⟨e1, e2, e3⟩ := hsame (isEmpty_nil (hG g))
     subst e1 e2 e3
     have : (s1.Gy d .nils).it = s1.it := by cases d <;> rfl
     rw [this]; exact .refl
    ·cases h
   ·cases h
 ·split at h
  ·rename_i u m et hat
   split at h
   ·cases h
   ·rename_i inf hinf
    split at h
    ·rename_i i p hx
     split at h
     ·rename_i T v hit
      split at h
      ·rename_i e0 l0 hg
       split at h
       ·rename_i m' e l
        obtain ⟨hb, h⟩ := Az h
        simp only [Bool.and_eq_true] at hb
        split at h
        ·rename_i a b ha hb'
         obtain ⟨_, hok, hk⟩ := bind_some h
         have hab : 0 ≤ a ∧ a ≤ b ∧ b ≤ m := of_decide_eq_true (Aa5 hok)
         have hm := hr0.mem
         obtain ⟨md, bb, h1, h2, h3⟩ := Aa8 (Cr hm.sl hx rfl)
         obtain ⟨a1, ha1⟩ := Int.eq_ofNat_of_zero_le hab.1
         obtain ⟨b1, hb1⟩ := Int.eq_ofNat_of_zero_le (show 0 ≤ b by omega)
         subst ha1 hb1
         have hxo := X.Bex (P := P) (σ := σ) (w := w) (x := x) (lo := lo) (hi := hi) (a := a1) (b := b1) hat (Em hinf hb.1.2) (by omega) (by omega) h3
          (by rcases Lt hm.sl ha with h | ⟨h, h'⟩; exact .inl h; exact .inr ⟨h, by omega⟩) (by rcases Lt hm.sl hb' with h | ⟨h, h'⟩; exact .inl h; exact .inr ⟨h, by omega⟩)
         refine Dk (p := .view false i p e a1 (b1 - a1)) hr0 hd hxo rfl ⟨md, _, h1, rfl, by omega, by omega, ⟨_, _, (by rw [show ((b1 : Int) - a1).toNat = b1 - a1 by omega]), (by omega), (fun h => by cases h), fun hc => ⟨bb, h2, ?_⟩⟩, (fun h => by cases h), fun _ => ⟨bb, h2⟩⟩ hk
         rw [if_neg (by omega), Nl]; rfl
        ·cases h
       ·cases h
      ·cases h
     ·cases h
    ·cases h
  ·cases h
theorem Bn6 {t : TypeId} {x hi mx : Operand} {lo : Option Operand} {G : Prop} (hr0 : Rel Z s σs A L σ w) (hd : Ki n ⟨d, .slice t x lo (some hi) (some mx), ty, pos, after, none⟩ = true) (h : Bby s d t x lo hi mx k P = some r) (hG : G → (owns (Ej s.sl x)).isEmpty = true) :
  Adv P n ops ⟨d, .slice t x lo (some hi) (some mx), ty, pos, after, none⟩ Z s σs k r G A L σ w := by
 unfold Bby at h
 split at h
 ·rename_i et ht
  split at h
  ·cases h
  ·rename_i s1 hs1
   obtain ⟨A1, L1, hr, hsame⟩ := Tr hr0 hs1
   have hm := hr.mem
   split at h
   ·rename_i e0 l0 hx
    split at h
    ·rename_i e l
     split at h
     ·rename_i inf hinf
      obtain ⟨hb, h⟩ := Az h
      simp only [Bool.and_eq_true] at hb
      split at h
      ·rename_i a b c ha hb' hc'
       obtain ⟨_, hok, h⟩ := bind_some h
       have hbc : b ≤ c ∧ c ≤ Ac l := of_decide_eq_true (Aa5 hok)
       obtain ⟨y, hy, h⟩ := bind_some h
       obtain ⟨h1, h2, h3, h4, rfl⟩ := Ajz hy
       obtain ⟨c0, h5, h6⟩ := Acf (Cr hm.sl hx rfl)
       have hlen := h6.len fun x c h => Ax.len h
       obtain ⟨q1, hq1⟩ := Aht hb' (Vs hm.sl hi (Ame hb'))
       obtain ⟨q2, hq2⟩ := Aht hc' (Vs hm.sl mx (Ame hc'))
       unfold Ac at hbc
       obtain ⟨p', l', c', h7, h8⟩ := X.Bol (P := P) (l := a.toNat) (k := b.toNat) (c := c.toNat) (m := l.length) ht (Em hinf hb.1) (St.Bst hr h5) (j := 0) rfl hlen (Bfq hb.2) h3 (by omega) (by omega)
       have hxo := h7 σ w x lo hi mx rfl (by rcases Lt hm.sl ha with h | ⟨h, h'⟩; exact .inl (by rw [← h1]; exact h); exact .inr ⟨h, by omega⟩)
        ⟨q1, by rw [hq1, ← h2]⟩ ⟨q2, by rw [hq2, show ((c.toNat : Nat) : Int) = c by omega]⟩
       have hv : Eg (fun b => A1 b ∧ Z.R b) w L1 (.val (.list e) ((l.take b.toNat).drop a.toNat)) (.slice p' l' c') :=
        Asw (h8.fact 0 rfl) (Bt.drop (fun x c h => Ax.len h) _ (Bt.take (fun x c h => Ax.len h) _ h6))
       refine WL.Bla rfl hd (hxo _ _ _ _ _) (WL.nil ⟨_, A1, L1, h, hr.Gy rfl hv, fun g => ?_⟩)
       obtain ⟨e1, e2, e3⟩ := hsame (isEmpty_nil (hG g))
       subst e1 e2 e3
       have : (s1.Gy d (.val (.list e) ((l.take b.toNat).drop a.toNat))).it = s1.it := by cases d <;> rfl
       rw [this]; exact .refl
      ·cases h
     ·cases h
    ·cases h
   ·cases h
 ·cases h
theorem Bze {e : ET} {p : PV} {x : e.T} (h : e.of p = some x) : p.isP = true := by
 unfold ET.of Bi3 at h
 split at h
 ·rfl
 ·rfl
 ·rfl
 ·cases h
theorem Bel {e : ET} (hr : Rel Z s σs A L σ w) : ∀ {xs : List Operand} {l : List e.T}, Bc4 e (xs.map (Ej s.sl)) = some l →
  Bt (Ax (fun b => A b ∧ Z.R b) w e) l ((xs.map (ev σ)).map fun v : Value => v.cells.toList).flatten ∧ l.length = xs.length ∧ ∀ v ∈ xs.map (ev σ), v.cells.size = e.size
 | [], l, h => by simp only [List.map_nil, Bc4, Option.some.injEq] at h; subst h; exact ⟨rfl, rfl, by simp⟩
 | x :: xs, l, h => by
  simp only [List.map_cons, Bc4] at h
  split at h
  ·rename_i y ys hy hys
   cases h
   obtain ⟨h1, h2, h3⟩ := Bel hr hys
   obtain ⟨cs, h4, h5⟩ := Ak3 hr (Aok hr.mem.sl (x := x) (Bze hy))
   have h6 := Akj hy h5
   refine ⟨⟨cs, _, by simp [h4], h6, h1⟩, by simp [h2], fun v hv => ?_⟩
   simp only [List.map_cons, List.mem_cons] at hv
   rcases hv with rfl | hv
   ·rw [h4]; simpa using h6.len
   ·exact h3 v hv
  ·cases h
theorem Big : ∀ {ps : List (Nat × Operand)} {m : Nat}, Bm9 m ps = true → (ps.map fun p => (p.1, ev σ p.2)) = (((ps.map Prod.snd).map (ev σ)).zipIdx m).map fun p => (p.2, p.1)
 | [], _, _ => rfl
 | (i, x) :: ps, m, h => by
  simp only [Bm9, Bool.and_eq_true] at h
  simp only [List.map_cons, List.zipIdx_cons, Big h.2, Cf h.1]
theorem Bc1 {t : TypeId} {len : Nat} {ps : Array (Nat × Operand)} {dn : Nat} {G : Prop} (hr0 : Rel Z s σs A L σ w) (hd : Ki n ⟨some dn, .buildSlice t len ps, ty, pos, after, none⟩ = true)
  (h : Ao6 P s (some dn) t len ps.toList k = some r) (hG : G → (owns.go (ps.toList.map fun p => Ej s.sl p.2)).isEmpty = true) : Adv P n ops ⟨some dn, .buildSlice t len ps, ty, pos, after, none⟩ Z s σs k r G A L σ w := by
 unfold Ao6 at h
 split at h
 ·cases h
 ·rename_i E hE
  split at h
  ·cases h
  ·rename_i e he
   obtain ⟨hb, h⟩ := Az h
   simp only [Bool.and_eq_true] at hb
   obtain ⟨⟨⟨hb1, hb2⟩, hb3⟩, hb4⟩ := hb
   split at h
   ·cases h
   ·rename_i s1 hs1
    obtain ⟨A1, L1, hr, hsame⟩ := Tr hr0 hs1
    split at h
    ·rename_i l hl
     have hl' : Bc4 e ((ps.toList.map Prod.snd).map (Ej s1.sl)) = some l := by rw [List.map_map]; exact hl
     obtain ⟨h1, h2, h3⟩ := Bel hr hl'
     have hps : ps = ps.toList.toArray := by simp
     rw [show (⟨some dn, .buildSlice t len ps, ty, pos, after, none⟩ : Oper) = ⟨some dn, .buildSlice t len ps.toList.toArray, ty, pos, after, none⟩ by rw [← hps]]
     have hlen : ((ps.toList.map Prod.snd).map (ev σ)).length = len := by simpa using Cf hb3
     have hF := St.Avr (f := Bcl Z.R L1 (.arr E e l) (((ps.toList.map Prod.snd).map (ev σ)).map fun v : Value => v.cells.toList).flatten) hr.same h1
     refine WL.buildSlice (vs := (ps.toList.map Prod.snd).map (ev σ)) (Asq hE) (Awg hb1) hF (Aoz (o := .buildSlice t len ps) hd) (Big hb2) hlen hb4 h3 rfl (fun p q c w' hs' => WL.nil ?_)
     have h4 : Bt (Ax (fun b => A1 b ∧ Z.R b) w' e) l (((ps.toList.map Prod.snd).map (ev σ)).map fun v : Value => v.cells.toList).flatten := hs'.fact 0 rfl
     refine Bcy.of (fun g => hsame (isEmpty_nil (hG g))) (Arr (a := .arr E e l) (md := .own e.size E (.slice p q c) _) hr hs'.Axj ⟨rfl, rfl, h4⟩ rfl (fun B => ?_) h)
     rw [S.new, hr.len]; exact Ay2
    ·cases h
theorem Bn7 {E : TypeId} {e : ET} {i len cap m : Nat} {q : Option Addr} {cs : List Value} {l : List e.T} (hr : Rel Z s σs A L σ w) (hi : L[i]? = some (.own e.size E (.slice q len cap) cs)) (hm : m ≤ len) (hl : Bt (Ax (fun b => A b ∧ Z.R b) w e) l (cs.take (m * e.size))) :
  Rel Z (((s.upd i .dead).sub i .any).add (.arr E e l)) σs A (L.set i .dead ++ [.own e.size E (.slice q m cap) (cs.take (m * e.size))]) σ w := by
 have hf : Frz (fun b => A b ∧ Z.R b) w L i .any := ⟨fun z E' u c h => ⟨u, rfl, by rw [hi] at h; cases h; rfl⟩, rfl, rfl⟩
 have hm2 := hr.mem.subst hf
 have hmob : (L.map MD.Jv)[i]? = some (Mob.own e.size E (.slice q len cap) cs) := hr.Jv hi
 obtain ⟨o, h1, h2, h3⟩ := (St.mobs hr).perm (Auo hmob).symm
 have h4 : (Mob.own e.size E (.slice q m cap) (cs.take (m * e.size))).holds o w := by
  obtain ⟨q', len', cap', g1, g2, g3, g4, g5, g6⟩ := h1
  cases g1
  have e5 : m * e.size ≤ len * e.size := Nat.mul_le_mul_right _ hm
  refine ⟨q, m, cap, rfl, by rw [List.length_take]; omega, by omega, g4, g5, fun b hb => ?_⟩
  obtain ⟨arr, fr, k1, k2, k3, k4, k5⟩ := g6 b hb
  exact ⟨arr, fr, k1, k2, k3, k4, fun j hj => by rw [k5 j (by omega), List.getElem?_take, if_pos hj]⟩
 have h5 : Mobs w A (Mob.own e.size E (.slice q m cap) (cs.take (m * e.size)) :: (L.map MD.Jv).eraseIdx i) := ⟨o, h4, h2, h3⟩
 have h6 : Mobs w A (MD.dead.Jv :: Mob.own e.size E (.slice q m cap) (cs.take (m * e.size)) :: (L.map MD.Jv).eraseIdx i) := ⟨none, ⟨none, 0, 0, rfl, by simp, Nat.le_refl _, fun _ => rfl, fun _ => rfl, fun b h => by cases h⟩, fun b hb => (by cases hb), h5.Ahd fun b hb => hb.elim id fun h => by cases h⟩
 have h7 : Mobs w A ((MD.own e.size E (.slice q m cap) (cs.take (m * e.size))).Jv :: (L.set i .dead).map MD.Jv) := by
  rw [List.map_set]
  exact h6.perm ((List.Perm.swap _ _ _).trans ((Ani (m' := MD.dead.Jv) hmob).cons _))
 have h8 : St A w [Ayk Z.R (L.set i .dead) ((s.upd i .dead).sub i .any) σs σ, .old Z.M Z.w0] ((MD.own e.size E (.slice q m cap) (cs.take (m * e.size))).Jv :: (L.set i .dead).map MD.Jv) := by
  refine ⟨St.lt hr, fun f hf => ?_, h7⟩
  cases hf with
  | head => exact hm2
  | tail _ hf => exact hr.facts f (.tail _ hf)
 exact Rel.push (a := .arr E e l) h8 ⟨rfl, rfl, hl⟩
theorem Bje {E : TypeId} {e : ET} {x : Operand} {s1 : S} {i : Nat} (hr : Rel Z s σs A L σ w) (hz : 0 < e.size) (hx : (Ej s.sl x).isP = true) (h : Bn3 s E e (Ej s.sl x) = some (s1, i)) :
  ∃ L1, Rel Z s1 σs A L1 σ w ∧ ∃ c0, L1[i]? = some (.own e.size E (ev σ x) c0) := by
 have hv := Vs hr.mem.sl x (PV.Bdx hx)
 unfold Bn3 at h
 split at h
 ·rename_i hp
  cases h
  rw [hp] at hv
  have hev := Agf hv
  have hr' := Rel.push (a := .arr E e []) (md := .own e.size E (.slice none 0 0) []) (St.Bgj hr e.size E) ⟨rfl, rfl, rfl⟩
  refine ⟨_, hr', [], ?_⟩
  rw [S.new, hr.len, hev]; simp
 ·rename_i j hp
  rw [hp] at hv
  split at h
  ·rename_i E' e' l hj
   obtain ⟨hb, h⟩ := Az h
   split at h
   ·rename_i he
    cases h
    subst he
    have := Cf hb
    subst this
    obtain ⟨v, cs, h1, h2⟩ := hr.mem.arr hj
    obtain ⟨z, E', c, h3⟩ := Ahm hv
    rw [h1] at h3; cases h3
    exact ⟨L, hr, cs, h1⟩
   ·cases h
  ·cases h
 ·rename_i j p e1 lo n' hp
  rw [hp] at hv
  split at h
  ·rename_i E' e' l hj
   obtain ⟨hb, h⟩ := Az h
   simp only [Bool.and_eq_true, decide_eq_true_eq] at hb
   obtain ⟨⟨hE, h0⟩, he1⟩ := hb
   split at h
   ·rename_i he
    cases h
    subst he he1
    have := Cf hE
    subst this
    subst h0
    obtain ⟨u, cs, h1, h2⟩ := hr.mem.arr hj
    obtain ⟨md, v1, h3, h4, k1, k2, _, k7, _⟩ := hv
    rw [h1] at h3; cases h3
    have h6 : ev σ x = v1 := by simpa using h4
    obtain ⟨s', E2, q, len, cap, c0, e1, e2, e3, _, e5⟩ := k7 rfl
    cases e1
    have e7 := e5 rfl
    have hl : Bt (Ax (fun b => A b ∧ Z.R b) w e1) (Anz l 0 n') (cs.take (n'.toNat * e1.size)) := by
     have := Bt.take (fun x c h => Ax.len h) n'.toNat h2
     simpa [Anz] using this
    have hr' := Bn7 hr h1 (m := n'.toNat) (by simpa using e3) hl
    refine ⟨_, hr', cs.take (n'.toNat * e1.size), ?_⟩
    rw [h6, e7, S.new, hr.len]
    have : L.length = (L.set j .dead).length := by simp
    rw [this, List.getElem?_append_right (Nat.le_refl _)]
    simp
   ·cases h
  ·cases h
 ·cases h
theorem Buy {e : ET} {a : Item} {l : List e.T} (h : Byc e a = some l) : ∃ E, a = .arr E e l := by
 unfold Byc at h
 split at h
 ·rename_i E e' l'
  split at h
  ·rename_i he; subst he; cases h; exact ⟨E, rfl⟩
  ·cases h
 ·cases h
theorem Bhx {E : TypeId} {e : ET} {i dn : Nat} {l m : List e.T} {cs ys : List Value} {v v' : Value} {w' : World} {s0 : S} {A0 : Reg} {L0 : List MD} {w0 : World} (hr : Rel Z s σs A L σ w) (hi : L[i]? = some (.own e.size E v cs)) (hl : Bt (Ax (fun b => A b ∧ Z.R b) w e) (l ++ m) (cs ++ ys))
  (hs : St A w' [Bcl Z.R L (.arr E e (l ++ m)) (cs ++ ys), Ayk Z.R L s σs σ, .old Z.M Z.w0] ((L.map MD.Jv).set i (.own e.size E v' (cs ++ ys))))
  (hk : k ((((s.upd i .dead).sub i .any).add (.arr E e (l ++ m))).Gy (some dn) (.own s.new)) = some r) : Bcy Z σs k r False A0 L0 s0.it w0 (upd σ dn v') w' := by
 have h1 : Bt (Ax (fun b => A b ∧ Z.R b) w' e) (l ++ m) (cs ++ ys) := hs.fact 0 rfl
 have hone : v.oneCell' = true := by obtain ⟨p, len, cap, rfl, _⟩ := hr.Yh hi; rfl
 have hs1 := hs.Axj
 have hm : MemR (fun b => A b ∧ Z.R b) w' L s σs σ := hs1.fact 0 rfl
 have hf : Frz (fun b => A b ∧ Z.R b) w' L i .any := ⟨fun z E' u c h => ⟨u, rfl, by rw [hi] at h; cases h; exact hone⟩, rfl, rfl⟩
 have hm2 := hm.subst hf
 have hmob : (L.map MD.Jv)[i]? = some (Mob.own e.size E v cs) := hr.Jv hi
 have hs2 := Mobs.As4 hs1 (Ani (m' := Mob.own e.size E v' (cs ++ ys)) hmob).symm
 have hs3 := Mobs.As4 (hs2.Bgj 1 0) (List.Perm.swap _ _ _)
 have hs4 := Mobs.As4 hs3 ((Ani (m' := MD.dead.Jv) hmob).cons _)
 have hs5 : St A w' [Ayk Z.R (L.set i .dead) ((s.upd i .dead).sub i .any) σs σ, .old Z.M Z.w0] ((MD.own e.size E v' (cs ++ ys)).Jv :: (L.set i .dead).map MD.Jv) := by
  rw [List.map_set]
  exact (hs4.noF.Avr (f := .old Z.M Z.w0) (hs4.fact 1 rfl)).Avr (f := Ayk Z.R (L.set i .dead) ((s.upd i .dead).sub i .any) σs σ) hm2
 have hr2 := Rel.push (a := .arr E e (l ++ m)) hs5 ⟨rfl, rfl, h1⟩
 have hnew : s.new = (L.set i .dead).length := by rw [List.length_set, ← hr.len]; rfl
 refine ⟨_, A, _, hk, hr2.Gy (d := some dn) rfl ?_, fun g => g.elim⟩
 rw [hnew]; exact Ay2
theorem Btx (z : Array Value) (hz : 0 < z.size) (m : Nat) : ((List.replicate m z.toList).flatten).toArray = Builtin.zeroCells z m := by
 apply Array.ext
 ·simp [Builtin.zeroCells]
 ·intro j h1 h2
  simp only [Builtin.zeroCells, Array.getElem_map, Array.getElem_range]
  have h3 : j < m * z.size := by simpa [Builtin.zeroCells] using h2
  have h4 := Bcm z.toList z.size (by simp) hz m j h3
  have h5 : j % z.size < z.size := Nat.mod_lt _ hz
  simp only [List.getElem_toArray]
  rw [List.getElem?_eq_getElem (by simpa using h1)] at h4
  simp [h5] at h4
  simp [h4, h5]
theorem Bwj {E t t2 : TypeId} {e : ET} {y : Operand} {kk : List e.T → Option R} (hr : Rel Z s σs A L σ w) (ht : P.underlying t = some (.slice E)) (hel : ElemOk P E e.size) (h : Byt P s E e t2 y kk = some r) :
  ∃ m ys, kk m = some r ∧ Bt (Ax (fun b => A b ∧ Z.R b) w e) m ys ∧ ∀ (A1 : Reg) (F : List Fact) (LL : List Mob) (i ll : Nat) (vx : Value) (cs : List Value), St A1 w F LL → LL[i]? = some (.own e.size E vx cs) → cs.length = ll * e.size → ll + m.length ≤ LIM →
   ∃ v' w', (Builtin.append_ #[t, t2] ty #[vx, ev σ y]).run P w = .ok v' w' ∧ St A1 w' F (LL.set i (.own e.size E v' (cs ++ ys))) := by
 unfold Byt at h
 split at h
 ·rename_i ht2
  split at h
  ·rename_i m0 hy
   split at h
   ·rename_i m hm
    unfold Asi at hm
    split at hm
    ·rename_i he
     cases he
     cases hm
     refine ⟨m0, Ae2 m0, h, Blr.Alc, fun A1 F LL i ll vx cs hs hL hlen hlim => ?_⟩
     rw [Xo hr.mem.sl hy]
     exact Auj (x := y) (y := y) ht hel hs hL (Src.string ht2) (Bvv m0) hlen (by simp [Ae2, ET.size]) hlim
    ·cases hm
   ·cases h
  ·cases h
 ·rename_i et2 ht2
  split at h
  ·rename_i m hm
   have hV : (Ej s.sl y).isV = true := by
    cases hq : (Ej s.sl y).isV with
    | true => rfl
    | false => rcases Acm hq with h | h | ⟨_, _, _, h⟩ <;> rw [h] at hm <;> cases hm
   obtain ⟨c0, h1, h2⟩ := Au1 hr.mem hm (Vs hr.mem.sl y hV)
   have hrd : Rd (fun _ => True) w e.size (ev σ y) c0 := by
    rcases h2 with h2 | ⟨j, E', u, cs', _, h2, hpart⟩
    ·exact h2.step (fun _ _ => trivial) (fun _ _ => rfl)
    ·exact hpart _ _ (hr.Yh h2)
   have hly := h1.len fun x c h => Ax.len h
   exact ⟨m, c0, h, h1, fun A1 F LL i ll vx cs hs hL hlen hlim => Auj (x := y) (y := y) ht hel hs hL (Src.slice ⟨_, ht2⟩ hrd hly hel.pos) h1.Bgg hlen hly hlim⟩
  ·cases h
 ·rename_i kk2 ht2
  split at h
  ·rename_i q z hq hz
   split at h
   ·rename_i x0 hx0
    obtain ⟨m, hm, h⟩ := bind_some h
    obtain ⟨h1, h2, rfl⟩ := Bjw hm
    obtain ⟨zv, ⟨i0, hi0, hz0⟩, hz2⟩ := All hz
    have hx1 := Akj hx0 (hz2 (fun b => A b ∧ Z.R b) w L)
    have hall := Be9 hx1 q.toNat
    refine ⟨_, _, h, hall, fun A1 F LL i ll vx cs hs hL hlen hlim => ?_⟩
    rw [Bao hq (Vs hr.mem.sl y (Be5 hq)), h1]
    have hzs : zv.cells.size = e.size := by have := hx1.len; simpa using this
    rw [List.length_replicate] at hlim
    exact Bga (x := y) (y := y) (ly := q.toNat) ht hel hs hL ⟨_, ht2⟩ (fun i z' hi hz' => by rw [hi0] at hi; cases hi; rw [hz0] at hz'; cases hz'; exact Btx zv.cells (by rw [hzs]; exact hel.pos) _)
     hall.Bgg hlen ((hall.len fun x c h => Ax.len h).trans (by simp)) hlim
   ·cases h
  ·cases h
 ·cases h
theorem Bp2 {t t2 : TypeId} {x y : Operand} {dn : Nat} (hr0 : Rel Z s σs A L σ w) (hd : Ki n ⟨some dn, .call ⟨.builtin .append, #[x, y], #[t, t2]⟩, ty, pos, after, none⟩ = true)
  (h : Bbn P s (some dn) x y t t2 k = some r) : Adv P n ops ⟨some dn, .call ⟨.builtin .append, #[x, y], #[t, t2]⟩, ty, pos, after, none⟩ Z s σs k r False A L σ w := by
 unfold Bbn at h
 split at h
 ·cases h
 ·rename_i E hE
  split at h
  ·cases h
  ·rename_i e he
   obtain ⟨hb, h⟩ := Az h
   simp only [Bool.and_eq_true] at hb
   have hel := Awg hb.1
   split at h
   ·cases h
   ·rename_i s1 i hown
    obtain ⟨L1, hr, cs, hi⟩ := Bje hr0 hel.pos hb.2 hown
    split at h
    ·cases h
    ·rename_i l hl
     obtain ⟨E', hit⟩ := Buy hl
     obtain ⟨v1, cs1, h1, h2⟩ := hr.mem.arr hit
     rw [hi] at h1; cases h1
     have hlen := h2.len fun x c h => Ax.len h
     obtain ⟨m, ys, hk, hm, hrun⟩ := Bwj (ty := ty) hr0 (Asq hE) hel h
     obtain ⟨r', ha, hk⟩ := bind_some hk
     obtain ⟨h3, rfl⟩ := Bdk ha
     have hF := St.Avr (f := Bcl Z.R L1 (.arr E e (l ++ m)) (cs ++ ys)) hr (h2.append hm)
     obtain ⟨v', w', h4, h5⟩ := hrun A _ _ i l.length (ev σ x) cs hF (hr.Jv hi) hlen h3
     refine WL.val (v := v') (w' := w') rfl rfl (Aoz hd) ?_ (WL.nil (Bhx hr hi (h2.append hm) h5 hk))
     simp [execOp, resolve, invoke, builtin, h4]
end Go.Rx
set_option linter.unusedVariables false
set_option linter.unusedSimpArgs false
namespace Go.Rx
open Go Go.Lv
variable {P : Program} {B : Reg} {w w' : World} {L L' : List MD} {s : S} {σs : List Env} {σ : Env} {Z : Fix} {A A' : Reg} {n : Nat} {ops : Array Oper} {rest : List Oper} {K : Env → World → Prop}
variable {R : Type} {k : S → Option R} {r : R} {d : Option Nat} {ty : TypeId} {pos : String} {after : Array Edge}
theorem Bdb {place : Nat → Option (Nat × Nat)} {acc ns : List Value} {i off z : Nat} {v : Value} {rest : List (Nat × Value)} (hp : place i = some (off, z)) (hv : v.cells = ns.toArray) (hz : ns.length = z) (hl : off + z ≤ acc.length) :
  Instr.fill place acc.toArray ((i, v) :: rest) = Instr.fill place (Bb acc off ns).toArray rest := by
 have hf := Aro off ns 0 acc (by omega)
 have hfold : v.cells.zipIdx.foldl (fun cs (x : Value × Nat) => cs.setIfInBounds (off + x.2) x.1) acc.toArray = (Bb acc off ns).toArray := by
  rw [hv, ← Array.foldl_toList, Array.toList_zipIdx]; simpa using hf
 simp only [Instr.fill, hp]
 have hc : (decide (v.cells.size ≠ z) || decide (off + v.cells.size > acc.toArray.size)) = false := by rw [hv]; simp; omega
 rw [if_neg (by rw [hc]; simp)]
 show Instr.fill _ (v.cells.zipIdx.foldl (fun cs (x : Value × Nat) => cs.setIfInBounds (off + x.2) x.1) acc.toArray) _ = _
 rw [hfold]
def places : List PV → Nat → List (Nat × Nat)
 | [], _ => []
 | v :: vs, off => (off, v.size) :: places vs (off + v.size)
theorem Bbk : ∀ {l : List PV} {i off : Nat} {u : PV}, l[i]? = some u → (places l off)[i]? = some (off + Bal l i, u.size)
 | [], _, _, _, h => by simp at h
 | a :: l, 0, off, u, h => by simp at h; subst h; rfl
 | a :: l, i + 1, off, u, h => by
  have := Bbk (l := l) (i := i) (off := off + a.size) (by simpa using h)
  simpa [places, Bal, Nat.add_assoc] using this
theorem Bcp : ∀ {l : List PV} {i off : Nat} {u v : PV}, l[i]? = some u → u.size = v.size → places (l.set i v) off = places l off
 | [], _, _, _, _, h, _ => by simp at h
 | a :: l, 0, off, u, v, h, hs => by simp at h; subst h; simp [places, hs]
 | a :: l, i + 1, off, u, v, h, hs => by simp [places, Bcp (l := l) (i := i) (by simpa using h) hs]
theorem Aye : ∀ {fs : List Field} {vs : List PV} {off : Nat}, Anq P fs vs off = true → (fs.map fun f => (f.offset, (P.info? f.type).map (·.size))) = (places vs off).map fun p => (p.1, some p.2)
 | [], [], _, _ => rfl
 | [], _ :: _, _, h => by simp [Anq] at h
 | _ :: _, [], _, h => by simp [Anq] at h
 | f :: fs, v :: vs, off, h => by
  simp only [Anq, Bool.and_eq_true] at h
  obtain ⟨⟨h1, h2⟩, h3⟩ := h
  split at h2
  ·rename_i i hi
   simp [places, Aye h3, hi, Cf h1, Cf h2]
  ·cases h2
theorem Ayb (hr : Rel Z s σs A L σ w) {pl : List (Nat × Nat)} : ∀ {parts : List (Nat × Operand)} {zs l : List PV} {acc : List Value}, Ar1 (parts.map fun p => (p.1, Ej s.sl p.2)) zs = some l →
  places zs 0 = pl → EncC.go (fun b => A b ∧ Z.R b) w L zs acc → ∃ cells, Instr.fill (pl[·]?) acc.toArray (parts.map fun p => (p.1, ev σ p.2)) = some cells.toArray ∧ EncC.go (fun b => A b ∧ Z.R b) w L l cells
 | [], zs, l, acc, h, _, ha => by simp only [List.map_nil, Ar1, Option.some.injEq] at h; subst h; exact ⟨acc, rfl, ha⟩
 | (i, x) :: ps, zs, l, acc, h, hpl, ha => by
  subst hpl
  simp only [List.map_cons, Ar1] at h
  split at h
  ·rename_i u hu
   obtain ⟨hb, h⟩ := Az h
   simp only [Bool.and_eq_true] at hb
   have hsz := Cf hb.1
   obtain ⟨ns, h1, h2⟩ := Ak3 hr (Aok hr.mem.sl (x := x) hb.2)
   obtain ⟨c1, c2, c3, e, h3, h4, h5⟩ := EncC.field ha hu
   have hlen := h2.len
   have hlen2 := h4.len
   obtain ⟨cells, h6, h7⟩ := Ayb hr (zs := zs.set i (Ej s.sl x)) (acc := c1 ++ (ns ++ c3)) h (by rw [Bcp hu hsz]) (h5 _ _ h2)
   refine ⟨cells, ?_, h7⟩
   rw [List.map_cons, Bdb (off := c1.length) (z := u.size) (ns := ns) (by rw [Bbk hu, Nat.zero_add, h3]) h1 (by omega) (by rw [e]; simp; omega), e, Aou (by omega)]
   exact h6
  ·cases h
theorem Bhm (hr : Rel Z s σs A L σ w) {e : ET} : ∀ {parts : List (Nat × Operand)} {l l' : List e.T} {acc : List Value}, Bbg e (parts.map fun p => (p.1, Ej s.sl p.2)) l = some l' →
  Bt (Ax (fun b => A b ∧ Z.R b) w e) l acc → ∃ cells, Instr.fill (fun i => some (i * e.size, e.size)) acc.toArray (parts.map fun p => (p.1, ev σ p.2)) = some cells.toArray ∧ Bt (Ax (fun b => A b ∧ Z.R b) w e) l' cells ∧ l'.length = l.length
 | [], l, l', acc, h, ha => by simp only [List.map_nil, Bbg, Option.some.injEq] at h; subst h; exact ⟨acc, rfl, ha, rfl⟩
 | (i, x) :: ps, l, l', acc, h, ha => by
  simp only [List.map_cons, Bbg] at h
  split at h
  ·rename_i u y hu hy
   obtain ⟨ns, h1, h2⟩ := Ak3 hr (Aok hr.mem.sl (x := x) (Bze hy))
   have h3 := Akj hy h2
   obtain ⟨c1, c2, c3, e', h4, h5, h6⟩ := Bt.get (fun x c h => Ax.len h) ha hu
   have hlen := h3.len
   have hlen2 := h5.len
   obtain ⟨cells, h7, h8, h9⟩ := Bhm hr (l := l.set i y) (acc := c1 ++ (ns ++ c3)) h (h6 _ _ h3)
   refine ⟨cells, ?_, h8, by rw [h9, List.length_set]⟩
   rw [List.map_cons, Bdb (off := c1.length) (z := e.size) (ns := ns) (by rw [h4]) h1 hlen (by rw [e']; simp; omega), e', Aou (by omega)]
   exact h7
  ·cases h
theorem Bo8 {t et : TypeId} {m z : Nat} {parts : List (Nat × Operand)} {zv : Value} {cells : List Value} (ht : P.underlying t = some (.array m et)) (hz : ∃ i, P.info? t = some i ∧ i.zero = some zv) (hsz : SizeIs P et z)
  (hf : Instr.fill (fun i => some (i * z, z)) zv.cells (parts.map fun p => (p.1, ev σ p.2)) = some cells.toArray) (w : World) : XO P σ w (.build t parts.toArray) (.agg cells.toArray) := fun _ _ _ _ _ => by
 obtain ⟨i, hi, hz⟩ := hz
 simp only [execOp, Instr.build, Sem.run_bind, zeroValue, typeInfo]
 simp [hi, hz, run_underlying ht, Bj hsz, hf]
theorem Bsf {t : TypeId} {ps : Array (Nat × Operand)} {G : Prop} (hr : Rel Z s σs A L σ w) (hd : Ki n ⟨d, .build t ps, ty, pos, after, none⟩ = true) (h : Bf2 P s d t ps.toList k = some r) :
  Adv P n ops ⟨d, .build t ps, ty, pos, after, none⟩ Z s σs k r G A L σ w := by
 have hps : ps = ps.toList.toArray := by simp
 rw [show (⟨d, .build t ps, ty, pos, after, none⟩ : Oper) = ⟨d, .build t ps.toList.toArray, ty, pos, after, none⟩ by rw [← hps]]
 unfold Bf2 at h
 split at h
 ·rename_i fs zs ht hz
  obtain ⟨hb, h⟩ := Az h
  obtain ⟨z, ⟨i, hi, hz0⟩, hz2⟩ := All hz
  split at h
  ·rename_i l hl
   obtain ⟨cells, h1, h2⟩ := Ayb hr (pl := places zs 0) hl rfl (show EncC.go _ w L zs _ from hz2 _ _ _)
   have hst : An4 P t (places zs 0) z.cells.toList := by
    unfold An4 Apo
    rw [ht]
    simp only [Aye hb, hi, hz0, Option.map_some]
   exact Dk hr (d := d) (o := .build t ps.toList.toArray) (by simpa using hd) (X.build hst rfl (by simpa using h1)) rfl (show Eg _ w L (.agg l) _ from ⟨cells, rfl, h2⟩) h
  ·cases h
 ·rename_i m et e0 l0 ht hz
  split at h
  ·rename_i m' a l
   split at h
   ·rename_i inf l' hinf hl
    obtain ⟨hb, h⟩ := Az h
    obtain ⟨z, hz1, hz2⟩ := All hz
    obtain ⟨h0, h0'⟩ : l.length = m' ∧ Bt (Ax (fun b => A b ∧ Z.R b) w a) l z.cells.toList := hz2 _ _ L
    obtain ⟨cells, h1, h2, h3⟩ := Bhm hr hl h0'
    have := Bo8 (σ := σ) (parts := ps.toList) ht hz1 (Em hinf hb) (by simpa using h1) w
    exact Dk hr (d := d) (o := .build t ps.toList.toArray) (by simpa using hd) this rfl (show Eg _ w L (.val (.vec m' a) l') _ from ⟨cells, rfl, h3.trans h0, h2⟩) h
   ·cases h
  ·cases h
 ·cases h
end Go.Rx
set_option linter.unusedVariables false
set_option linter.unusedSimpArgs false
namespace Go.Rx
open Go Go.Lv
variable {P : Program} {B B' : Reg} {w w' : World} {L L' : List MD} {s : S} {σs : List Env} {σ : Env} {Z : Fix} {A A' : Reg} {n : Nat}
def Aqd (B : Reg) (w : World) (L : List MD) (B' : Reg) (w' : World) (L' : List MD) (q q' : PV) : Prop := q'.isA = q.isA ∧ ∀ cs, EncC B w L q cs → EncC B' w' L' q' cs
inductive All2 {α β : Type} (f : α → β → Prop) : List α → List β → Prop
 | nil : All2 f [] []
 | cons {a b l m} : f a b → All2 f l m → All2 f (a :: l) (b :: m)
theorem All2.split {α β : Type} {f : α → β → Prop} : ∀ {l1 l2 : List α} {m : List β}, All2 f (l1 ++ l2) m → ∃ m1 m2, m = m1 ++ m2 ∧ All2 f l1 m1 ∧ All2 f l2 m2
 | [], _, m, h => ⟨[], m, rfl, .nil, h⟩
 | a :: l1, l2, _, .cons h1 h2 => let ⟨m1, m2, e, h3, h4⟩ := All2.split h2; ⟨_ :: m1, m2, by rw [e]; rfl, .cons h1 h3, h4⟩
mutual
theorem At3 : ∀ {sh : Sh} {p : PV} {ls ls' rest : List PV} {cs : List Value}, Ya sh p = some ls → EncC B w L p cs → All2 (Aqd B w L B' w' L') ls ls' → ∃ p', Ug sh (ls' ++ rest) = some (p', rest) ∧ p'.isA = p.isA ∧ EncC B' w' L' p' cs
 | .lf e o, p, ls, ls', rest, cs, h, hp, ha => by
  simp only [Ya, Option.some.injEq] at h
  subst h
  cases ha with
  | cons h1 h2 =>
   cases h2
   exact ⟨_, rfl, h1.1, h1.2 _ hp⟩
 | .agg l, p, ls, ls', rest, cs, h, hp, ha => by
  cases p <;> simp only [Ya, reduceCtorEq] at h
  rename_i vs
  obtain ⟨us, h1, h2⟩ := Axn (rest := rest) h (show EncC.go B w L vs cs from hp) ha
  exact ⟨.agg us, by simp only [Ug, h1], rfl, h2⟩
theorem Axn : ∀ {l : List Sh} {ps : List PV} {ls ls' rest : List PV} {cs : List Value}, Ya.go l ps = some ls → EncC.go B w L ps cs → All2 (Aqd B w L B' w' L') ls ls' → ∃ ps', Ug.go l (ls' ++ rest) = some (ps', rest) ∧ EncC.go B' w' L' ps' cs
 | [], [], ls, ls', rest, cs, h, hp, ha => by
  simp only [Ya.go, Option.some.injEq] at h; subst h
  cases ha
  exact ⟨[], rfl, hp⟩
 | a :: l, p :: ps, ls, ls', rest, cs, h, ⟨c1, c2, e, hp1, hp2⟩, ha => by
  simp only [Ya.go] at h
  split at h
  ·rename_i x y hx hy
   cases h
   obtain ⟨m1, m2, rfl, h1, h2⟩ := ha.split
   obtain ⟨p', h3, _, h4⟩ := At3 (rest := m2 ++ rest) hx hp1 h1
   obtain ⟨ps', h5, h6⟩ := Axn (rest := rest) hy hp2 h2
   exact ⟨p' :: ps', by simp only [Ug.go, List.append_assoc, h3, h5], c1, c2, e, h4, h6⟩
  ·cases h
 | [], _ :: _, _, _, _, _, h, _, _ => by simp [Ya.go] at h
 | _ :: _, [], _, _, _, _, h, _, _ => by simp [Ya.go] at h
end
theorem Atw : ∀ {l : List Sh} {ps : List PV} {ls ls' rest : List PV} {us : List Value}, Ya.go l ps = some ls → EncVs B w L ps us → All2 (Aqd B w L B' w' L') ls ls' → ∃ ps', Ug.go l (ls' ++ rest) = some (ps', rest) ∧ EncVs B' w' L' ps' us
 | [], [], ls, ls', rest, us, h, hp, ha => by
  simp only [Ya.go, Option.some.injEq] at h; subst h
  cases ha
  exact ⟨[], rfl, hp⟩
 | a :: l, p :: ps, ls, ls', rest, us, h, ⟨v, us', e, hp1, hp2⟩, ha => by
  simp only [Ya.go] at h
  split at h
  ·rename_i x y hx hy
   cases h
   obtain ⟨m1, m2, rfl, h1, h2⟩ := ha.split
   have key : ∃ p', Ug a (m1 ++ (m2 ++ rest)) = some (p', m2 ++ rest) ∧ asV p'.isA (EncC B' w' L' p') v := by
    cases hA : p.isA with
    | true =>
     rw [hA] at hp1
     obtain ⟨cs, e1, hc⟩ := hp1
     obtain ⟨p', h3, h4, h5⟩ := At3 (rest := m2 ++ rest) hx hc h1
     exact ⟨p', h3, by rw [h4, hA]; exact ⟨cs, e1, h5⟩⟩
    | false =>
     rw [hA] at hp1
     obtain ⟨p', h3, h4, h5⟩ := At3 (rest := m2 ++ rest) hx hp1 h1
     exact ⟨p', h3, by rw [h4, hA]; exact h5⟩
   obtain ⟨p', h3, h4⟩ := key
   obtain ⟨ps', h5, h6⟩ := Atw (rest := rest) hy hp2 h2
   exact ⟨p' :: ps', by simp only [Ug.go, List.append_assoc, h3, h5], v, us', e, h4, h6⟩
  ·cases h
 | [], _ :: _, _, _, _, _, h, _, _ => by simp [Ya.go] at h
 | _ :: _, [], _, _, _, _, h, _, _ => by simp [Ya.go] at h
theorem Au4 {l : List Sh} {ps ls ls' : List PV} {us : List Value} (h : Bnl l ps = some ls) (hp : EncVs B w L ps us) (ha : All2 (Aqd B w L B' w' L') ls ls') : ∃ ps', Ary l ls' = some ps' ∧ EncVs B' w' L' ps' us := by
 obtain ⟨ps', h1, h2⟩ := Atw (rest := []) h hp ha
 rw [List.append_nil] at h1
 exact ⟨ps', by simp only [Ary, h1], h2⟩
theorem Bgw {e : ET} {q : PV} {x : e.T} (h : Asf s e q = some x) : (∃ e0, e = .list e0) ∨ (∃ e' x', q = .val e' x' ∧ Asi e' e x' = some x) := by
 unfold Asf at h
 split at h
 ·exact .inl ⟨_, rfl⟩
 ·exact .inr ⟨_, _, rfl, h⟩
 ·cases h
theorem cast_eq {e e' : ET} {x : e.T} {y : e'.T} (h : Asi e e' x = some y) : PV.val e x = PV.val e' y := by
 unfold Asi at h
 split at h
 ·rename_i he; subst he; cases h; rfl
 ·cases h
theorem Bpt {e : ET} {q : PV} {l : List e.T} (h : Be1 s e q = some l) : elems s e q = some l ∧ q.isA = false ∧ q.size = 1 := by
 unfold Be1 at h
 split at h
 ·cases h
 ·refine ⟨h, ?_⟩
  unfold elems at h
  split at h
  ·split at h
   ·exact ⟨rfl, rfl⟩
   ·cases h
  ·exact ⟨rfl, rfl⟩
  ·exact ⟨rfl, rfl⟩
  ·exact ⟨rfl, rfl⟩
  ·cases h
theorem Bjv (hr : Rel Z s σs A L σ w) {e : ET} {q : PV} {x : e.T} (h : Asf s e q = some x) (hb : ∀ b, A b ∧ Z.R b → B' b) (ho : ∀ i ∈ owns q, ∀ z E v c, L[i]? = some (.own z E v c) → Rd B' w z v c) : Aqd (fun b => A b ∧ Z.R b) w L B' w L' q (.val e x) := by
 rcases Bgw h with ⟨e0, rfl⟩ | ⟨e', x', rfl, hc⟩
 ·obtain ⟨h1, hA, h2⟩ := Bpt (show Be1 s e0 q = some x from h)
  refine ⟨by rw [hA]; rfl, fun cs hcs => ?_⟩
  have hP := hcs.Aw1
  have hlen := hcs.len
  have : ∃ v, cs = [v] := by
   rw [h2] at hlen
   match cs, hlen with
   | [v], _ => exact ⟨v, rfl⟩
  obtain ⟨v, rfl⟩ := this
  have hv : Eg (fun b => A b ∧ Z.R b) w L q v := (Arh hP).2 (by unfold Iw; rw [hA]; exact hcs)
  obtain ⟨c0, h3, h4⟩ := Au1 hr.mem h1 hv
  refine ⟨v, c0, rfl, ?_, h3.mono fun x c h => Ax.step hb (fun _ _ => rfl) h⟩
  rcases h4 with h4 | ⟨i, E, u, cs, hi, h4, hpart⟩
  ·exact h4.step hb (fun _ _ => rfl)
  ·exact hpart _ _ (ho i hi _ _ _ _ h4)
 ·have := cast_eq hc
  rw [this]
  exact ⟨rfl, fun cs h => Ax.step hb (fun _ _ => rfl) (show Ax _ w e x cs from h)⟩
theorem Bnr {e : ET} {x : e.T} {s0 : S} : Ef e none x s0 = (.val e x, s0) := by cases e <;> rfl
theorem Bax (x : LTy []) (s0 : S) : Ep [] x s0 = ([], s0) := rfl
theorem Ao1 (p : ET × Option TypeId) (x : LTy [p]) (s0 : S) : Ep [p] x s0 = ([(Ef p.1 p.2 x s0).1], (Ef p.1 p.2 x s0).2) := rfl
theorem Alv (p q : ET × Option TypeId) (r : List (ET × Option TypeId)) (x : p.1.T) (y : LTy (q :: r)) (s0 : S) : Ep (p :: q :: r) (x, y) s0 =
  ((Ef p.1 p.2 x s0).1 :: (Ep (q :: r) y (Ef p.1 p.2 x s0).2).1, (Ep (q :: r) y (Ef p.1 p.2 x s0).2).2) := rfl
theorem pk0 {p : ET × Option TypeId} : Akd s [p] [] = none := rfl
theorem pk2 {p : ET × Option TypeId} {q r : PV} {qs : List PV} : Akd s [p] (q :: r :: qs) = none := rfl
theorem pk3 {q : PV} {qs : List PV} : Akd s [] (q :: qs) = none := rfl
theorem pk4 {p q : ET × Option TypeId} {r : List (ET × Option TypeId)} : Akd s (p :: q :: r) [] = none := rfl
theorem pk5 {p q : ET × Option TypeId} {r : List (ET × Option TypeId)} {v : PV} {vs : List PV} : Akd s (p :: q :: r) (v :: vs) = (match Asf s p.1 v, Akd s (q :: r) vs with | some x, some y => some ((x, y) : p.1.T × LTy (q :: r)) | _, _ => none) := rfl
theorem Bhr {qs : List PV} {x : LTy []} (h : Akd s [] qs = some x) : qs = [] := by
 match qs, h with
 | [], _ => rfl
 | _ :: _, h => rw [pk3] at h; cases h
theorem Bgv {p : ET × Option TypeId} {qs : List PV} {x : LTy [p]} (h : Akd s [p] qs = some x) : ∃ q, qs = [q] ∧ Asf s p.1 q = some x := by
 match qs, h with
 | [], h => rw [pk0] at h; cases h
 | [q], h => exact ⟨q, rfl, h⟩
 | q :: r :: qs, h => rw [pk2] at h; cases h
theorem Bd4 {p q : ET × Option TypeId} {r : List (ET × Option TypeId)} {qs : List PV} {z : LTy (p :: q :: r)} (h : Akd s (p :: q :: r) qs = some z) :
  ∃ v vs, ∃ (x : p.1.T) (y : LTy (q :: r)), qs = v :: vs ∧ z = (x, y) ∧ Asf s p.1 v = some x ∧ Akd s (q :: r) vs = some y := by
 match qs, h with
 | [], h => rw [pk4] at h; cases h
 | v :: vs, h =>
  rw [pk5] at h
  split at h
  ·rename_i x y hx hy
   cases h
   exact ⟨v, vs, x, y, rfl, rfl, hx, hy⟩
  ·cases h
def Ng (L : List MD) : List (ET × Option TypeId) → List PV → List MD
 | p :: r, v :: vs => match p.2 with
  | none => Ng L r vs
  | some E => (match p.1, v with
   | .list _, .own i => L.getD i .dead
   | .list a, _ => .own a.size E (.slice none 0 0) []
   | _, _ => .dead) :: Ng L r vs
 | _, _ => []
theorem Avs : ∀ {ls : List (ET × Option TypeId)} {vs : List PV} {is : List Nat}, Ber ls = true → consume s ls vs = some is → is = []
 | [], [], is, _, h => by simp [consume] at h; exact h
 | [], _ :: _, _, _, h => by simp [consume] at h
 | _ :: _, [], _, _, h => by simp [consume] at h
 | (e, none) :: r, v :: vs, is, hn, h => Avs (ls := r) (vs := vs) (by simpa [Ber] using hn) (by simpa [consume] using h)
 | (e, some _) :: r, v :: vs, is, hn, h => by simp [Ber] at hn
theorem Au3 {N : Reg} : ∀ {ls : List (ET × Option TypeId)} {vs : List PV} {is : List Nat} {A : Reg}, consume s ls vs = some is → Mobs w A (is.map fun i => (L.getD i .dead).Jv) → Mobs w A ((Ng L ls vs).map MD.Jv)
 | [], [], _, _, _, _ => trivial
 | [], _ :: _, _, _, h, _ => by simp [consume] at h
 | _ :: _, [], _, _, h, _ => by simp [consume] at h
 | (e, none) :: r, v :: vs, is, A, h, hm => Au3 (N := N) (ls := r) (vs := vs) (by simpa [consume] using h) hm
 | (e, some E) :: r, v :: vs, is, A, h, hm => by
  simp only [consume] at h
  split at h
  ·rename_i a
   exact ⟨none, ⟨none, 0, 0, rfl, by simp, Nat.le_refl _, fun _ => rfl, fun _ => rfl, fun b h => by cases h⟩, fun b hb => (by cases hb), (Au3 (N := N) h hm).Ahd fun b hb => hb.elim id (fun h => by cases h)⟩
  ·rename_i a i
   split at h
   ·rename_i E' a' l hi
    obtain ⟨_, h⟩ := Az h
    simp only [Option.map_eq_some_iff] at h
    obtain ⟨is', h1, rfl⟩ := h
    obtain ⟨o, g1, g2, g3⟩ := hm
    exact ⟨o, g1, g2, Au3 (N := N) h1 g3⟩
   ·cases h
  ·cases h
theorem Bd6 {B1 : Reg} (hr : Rel Z s σs A L σ w) (hb : ∀ b, A b ∧ Z.R b → B1 b) : ∀ (ls : List (ET × Option TypeId)) (vs : List PV) (x : LTy ls) (is : List Nat) (s0 : S) (Lx LF : List MD),
  Akd s ls vs = some x → consume s ls vs = some is → (∀ i ∈ Wo ls vs, ∀ z E v c, L[i]? = some (.own z E v c) → Rd B1 w z v c) → Lx.length = s0.it.length → LF = Lx ++ Ng L ls vs →
  ∃ its, (Ep ls x s0).2 = ⟨s0.sl, s0.it ++ its, s0.st⟩ ∧ its.length = (Ng L ls vs).length ∧ All2 (Aqd (fun b => A b ∧ Z.R b) w L B1 w LF) vs (Ep ls x s0).1 ∧
   ∀ (i : Nat) (a : Item) (m : MD), its[i]? = some a → (Ng L ls vs)[i]? = some m → ItemR B1 w LF a m
 | [], vs, x, is, s0, Lx, LF, hp, hc, _, _, _ => by
  rw [Bhr hp]
  refine ⟨[], ?_, rfl, All2.nil, fun i a m h => by simp at h⟩
  rw [Bax]; simp
 | p :: ls, vs, x, is, s0, Lx, LF, hp, hc, ho, hlen, hLF => by
  have main : ∀ (v : PV) (vs' : List PV) (x1 : p.1.T) (rest : S → List PV × S), vs = v :: vs' → Asf s p.1 v = some x1 →
    (Ep (p :: ls) x s0 = ((Ef p.1 p.2 x1 s0).1 :: (rest (Ef p.1 p.2 x1 s0).2).1, (rest (Ef p.1 p.2 x1 s0).2).2)) →
    (∀ (is : List Nat) (s1 : S) (Lx : List MD), consume s ls vs' = some is → (∀ i ∈ Wo ls vs', ∀ z E v c, L[i]? = some (.own z E v c) → Rd B1 w z v c) → Lx.length = s1.it.length → LF = Lx ++ Ng L ls vs' →
     ∃ its, (rest s1).2 = ⟨s1.sl, s1.it ++ its, s1.st⟩ ∧ its.length = (Ng L ls vs').length ∧ All2 (Aqd (fun b => A b ∧ Z.R b) w L B1 w LF) vs' (rest s1).1 ∧
      ∀ (i : Nat) (a : Item) (m : MD), its[i]? = some a → (Ng L ls vs')[i]? = some m → ItemR B1 w LF a m) →
    ∃ its, (Ep (p :: ls) x s0).2 = ⟨s0.sl, s0.it ++ its, s0.st⟩ ∧ its.length = (Ng L (p :: ls) vs).length ∧ All2 (Aqd (fun b => A b ∧ Z.R b) w L B1 w LF) vs (Ep (p :: ls) x s0).1 ∧
     ∀ (i : Nat) (a : Item) (m : MD), its[i]? = some a → (Ng L (p :: ls) vs)[i]? = some m → ItemR B1 w LF a m := by
   intro v vs' x1 rest hvs hx hu hrest
   subst hvs
   rw [hu]
   obtain ⟨e, o⟩ := p
   cases o with
   | none =>
    have hc' : consume s ls vs' = some is := by simpa [consume] using hc
    have e1 : Ef e none x1 s0 = (.val e x1, s0) := Bnr
    simp only [e1]
    obtain ⟨its, h1, h2, h3, h4⟩ := hrest is s0 Lx hc' (fun i hi => ho i (by simp [Wo, hi])) hlen hLF
    refine ⟨its, h1, h2, .cons (Bjv hr hx hb (fun i hi z E v c hL => ho i (by simp [Wo, hi]) z E v c hL)) h3, h4⟩
   | some E =>
    simp only [consume] at hc
    split at hc
    ·rename_i a
     have hx' : x1 = [] := by
      have : elems s a .nils = some x1 := hx
      simpa [elems] using this.symm
     subst hx'
     have e1 : Ef (.list a) (some E) [] s0 = (.own s0.new, s0.add (.arr E a [])) := rfl
     simp only [e1]
     obtain ⟨its, h1, h2, h3, h4⟩ := hrest is (s0.add (.arr E a [])) (Lx ++ [.own a.size E (.slice none 0 0) []]) hc (fun i hi => ho i (by simpa [Wo] using hi)) (by simp [S.add, hlen]) (by rw [hLF]; simp [Ng])
     refine ⟨.arr E a [] :: its, by rw [h1]; simp [S.add], by simp [Ng, h2], .cons ⟨rfl, fun cs hcs => ?_⟩ h3, fun i b m hi hm => ?_⟩
     ·refine ⟨a.size, E, .slice none 0 0, [], ?_, hcs⟩
      rw [hLF, S.new, ← hlen]
      simp [Ng]
     ·cases i with
      | zero =>
       simp [Ng] at hi hm
       subst hi hm
       exact ⟨rfl, rfl, rfl⟩
      | succ i => exact h4 i b m (by simpa using hi) (by simpa [Ng] using hm)
    ·rename_i a i
     split at hc
     ·rename_i E' a' l hi
      obtain ⟨hb1, hc1⟩ := Az hc
      clear hc
      simp only [Bool.and_eq_true, decide_eq_true_eq] at hb1
      obtain ⟨hE, rfl⟩ := hb1
      have := Cf hE
      subst this
      simp only [Option.map_eq_some_iff] at hc1
      obtain ⟨is', hc', rfl⟩ := hc1
      obtain ⟨u, cs0, g1, g2⟩ := hr.mem.arr hi
      have hx' : x1 = l := by
       have : elems s a' (.own i) = some x1 := hx
       simp [elems, hi] at this
       exact this.symm
      subst hx'
      have hg : L.getD i .dead = .own a'.size E' u cs0 := by simp [List.getD_eq_getElem?_getD, g1]
      have e1 : Ef (.list a') (some E') x1 s0 = (.own s0.new, s0.add (.arr E' a' x1)) := rfl
      simp only [e1]
      obtain ⟨its, h1, h2, h3, h4⟩ := hrest is' (s0.add (.arr E' a' x1)) (Lx ++ [.own a'.size E' u cs0]) hc' (fun i hi => ho i (by simpa [Wo] using hi)) (by simp [S.add, hlen]) (by rw [hLF]; simp only [Ng, hg]; simp)
      refine ⟨.arr E' a' x1 :: its, by rw [h1]; simp [S.add], by simp [Ng, h2], .cons ⟨rfl, fun cs hcs => ?_⟩ h3, fun q b m hq hm => ?_⟩
      ·obtain ⟨z, E2, v2, c2, k1, k2⟩ := hcs
       rw [g1] at k1; cases k1
       refine ⟨a'.size, E', u, cs0, ?_, k2⟩
       rw [hLF, S.new, ← hlen]
       simp only [Ng, hg]; simp
      ·cases q with
       | zero =>
        simp only [Ng, hg] at hq hm
        simp at hq hm
        subst hq hm
        exact ⟨rfl, rfl, g2.mono fun x c h => Ax.step hb (fun _ _ => rfl) h⟩
       | succ q => exact h4 q b m (by simpa using hq) (by simpa [Ng] using hm)
     ·cases hc
    ·cases hc
  cases ls with
  | nil =>
   obtain ⟨v, rfl, hx⟩ := Bgv hp
   exact main v [] x (fun s1 => ([], s1)) rfl hx (Ao1 p x s0) (fun is s1 Lx _ _ hlen hLF => ⟨[], by simp, rfl, All2.nil, fun i a m h => by simp at h⟩)
  | cons q r =>
   obtain ⟨v, vs', x1, y', rfl, rfl, hx, hy⟩ := Bd4 hp
   exact main v vs' x1 (fun s1 => Ep (q :: r) y' s1) rfl hx (Alv p q r x1 y' s0)
    (fun is s1 Lx hc ho hlen hLF => Bd6 hr hb (q :: r) vs' y' is s1 Lx LF hy hc ho hlen hLF)
theorem Bie : ∀ (a b : List PV), owns.go (a ++ b) = owns.go a ++ owns.go b
 | [], b => rfl
 | x :: a, b => by simp [owns.go, Bie a b]
mutual
theorem Bl4 : ∀ {sh : Sh} {p : PV} {ls : List PV}, Ya sh p = some ls → owns.go ls = owns p
 | .lf e o, p, ls, h => by simp only [Ya, Option.some.injEq] at h; subst h; simp [owns.go]
 | .agg l, p, ls, h => by cases p <;> simp only [Ya, reduceCtorEq] at h; exact Aum h
theorem Aum : ∀ {l : List Sh} {ps ls : List PV}, Ya.go l ps = some ls → owns.go ls = owns.go ps
 | [], [], ls, h => by simp only [Ya.go, Option.some.injEq] at h; subst h; rfl
 | a :: l, p :: ps, ls, h => by
  simp only [Ya.go] at h
  split at h
  ·rename_i x y hx hy; cases h; rw [Bie, Bl4 hx, Aum hy]; rfl
  ·cases h
 | [], _ :: _, _, h => by simp [Ya.go] at h
 | _ :: _, [], _, h => by simp [Ya.go] at h
end
structure KeepN (N : Reg) (w w' : World) : Prop where
 same : ∀ b, b < w.heap.size → N b → w'.heap[b]? = w.heap[b]?
 gr : Gr w w'
def GlOk (gl : List (Nat × List Value)) (N : Reg) (w : World) : Prop := ∀ p ∈ gl, p.1 < w.heap.size ∧ N p.1 ∧ ∃ T fr, w.heap[p.1]? = some (.cells p.2.toArray T fr)
def ResOk (gl : List (Nat × List Value)) (R N : Reg) (w w' : World) (rs : List Sh) (y : LTy (shL rs)) (us : List Value) : Prop :=
 KeepN N w w' ∧ ∃ (A1 : Reg) (L1 : List MD), (∀ b, A1 b → (¬ N b ∨ w.heap.size ≤ b) ∧ b < w'.heap.size) ∧ Mobs w' (fun b => A1 b ∨ (b < w.heap.size ∧ N b)) (L1.map MD.Jv) ∧
  ∀ (s : S) (L : List MD) (B' : Reg), L.length = s.it.length → (∀ b, A1 b → B' b) → (Bvc rs = true → ∀ b, (R b ∧ N b) ∨ (∃ p ∈ gl, p.1 = b) → B' b) →
   ∃ ps its, (Ep (shL rs) y s).2 = ⟨s.sl, s.it ++ its, s.st⟩ ∧ Ary rs (Ep (shL rs) y s).1 = some ps ∧ EncVs B' w' (L ++ L1) ps us ∧ its.length = L1.length ∧
   ∀ (i : Nat) (a : Item) (m : MD), its[i]? = some a → L1[i]? = some m → ItemR B' w' (L ++ L1) a m
structure ConOk (P : Program) (gl : List (Nat × List Value)) (f : Nat) (c : Con) : Prop where
 ent : Ent P f
 ok : ∀ (R N : Reg) (w : World) (L0 : List MD) (vs : List Value) (ps : List PV) (x : LTy (shL c.ps)) (y : LTy (shL c.rs)), args c.ps x = some ps → (argI c.ps x).length = L0.length →
  (∀ (i : Nat) (a : Item) (m : MD), (argI c.ps x)[i]? = some a → L0[i]? = some m → ItemR (fun b => R b ∧ N b) w L0 a m) → Mobs w N (L0.map MD.Jv) → EncVs (fun b => R b ∧ N b) w L0 ps vs → GlOk gl N w → c.fn x = some y →
  Calls P f vs.toArray w fun e w' => ∃ us, e = .returned (packRes us) ∧ ResOk gl R N w w' c.rs y us
end Go.Rx
set_option linter.unusedVariables false
set_option linter.unusedSimpArgs false
namespace Go.Rx
open Go Go.Lv
variable {P : Program} {B B' : Reg} {w w' : World} {L L' : List MD} {s : S} {σs : List Env} {σ : Env} {Z : Fix} {A A' : Reg} {n : Nat} {ops : Array Oper}
variable {R : Type} {k : S → Option R} {r : R} {d : Option Nat} {ty : TypeId} {pos : String} {after : Array Edge} {T : Tab} {inl : Inl R}
def Aq5 (P : Program) (gl : List (Nat × List Value)) (inl : Inl R) : Prop := ∀ (Z : Fix), Z.gl = gl → ∀ (f : Nat) (as : List PV) (s : S) (k : S → PV → Option R) (r : R) (σs : List Env) (A : Reg) (L : List MD) (σ : Env) (w : World) (vs : List Value),
 inl f as s k = some r → Rel Z s σs A L σ w → EncVs (fun b => A b ∧ Z.R b) w L as vs → Ent P f ∧ Calls P f vs.toArray w fun e w' => ∃ v p s' A' L', e = .returned v ∧ k s' p = some r ∧ Rel Z s' σs A' L' σ w' ∧ p.isV = true ∧ Eg (fun b => A' b ∧ Z.R b) w' L' p v
def Aqg (P : Program) (T : Tab) : Prop := ∀ f c, T.get f = some c → ConOk P T.gl f c
def Avp (P : Program) (T : Tab) (Z : Fix) : Prop := Aqg P T ∧ Z.gl = T.gl
theorem EncVs.step {q : List PV} {vs : List Value} (hb : ∀ b, B b → B' b) (hs : Same B w w') (hl : LeL L L') (h : EncVs B w L q vs) : EncVs B' w' L' q vs := EncC.Bne hb hs hl h
theorem EncVs.append : ∀ {p q : List PV} {us vs : List Value}, EncVs B w L p us → EncVs B w L q vs → EncVs B w L (p ++ q) (us ++ vs)
 | [], q, us, vs, h, h' => by rw [show us = [] from h]; exact h'
 | a :: p, q, us, vs, ⟨v, us', e, h1, h2⟩, h' => ⟨v, us' ++ vs, by rw [e]; rfl, h1, EncVs.append h2 h'⟩
theorem Bg7 {ps : List PV} {us : List Value} (h : EncVs B w L ps us) : (Bhn ps).isV = true ∧ Eg B w L (Bhn ps) (packRes us) := by
 match ps, us, h with
 | [], us, h => rw [show us = [] from h]; exact ⟨rfl, [], rfl, rfl⟩
 | [p], us, ⟨v, us', e, h1, h2⟩ =>
  rw [show us' = [] from h2] at e; subst e
  exact Kk h1
 | p :: q :: r, us, h =>
  obtain ⟨v, us', e, h1, v2, us2, e2, h2, h3⟩ := h
  subst e2 e
  exact ⟨rfl, v :: v2 :: us2, rfl, v, _, rfl, h1, v2, us2, rfl, h2, h3⟩
theorem Rel.Bpf {w' : World} {A1 BX : Reg} {L1 : List MD} {its : List Item} (hr : Rel Z s σs A L σ w) (hBX : ∀ b, BX b → ¬ A b ∧ b < w.heap.size) (hY : Mobs w (fun b => A b ∨ BX b) (L.map MD.Jv))
  (hk : KeepN (fun b => ¬ BX b) w w') (hA1 : ∀ b, A1 b → (¬ ¬ BX b ∨ w.heap.size ≤ b) ∧ b < w'.heap.size)
  (hm : Mobs w' (fun b => A1 b ∨ (b < w.heap.size ∧ ¬ BX b)) (L1.map MD.Jv)) (hlen : its.length = L1.length)
  (hit : ∀ (i : Nat) (a : Item) (m : MD), its[i]? = some a → L1[i]? = some m → ItemR (fun b => (A b ∨ A1 b) ∧ Z.R b) w' (L ++ L1) a m) :
  Rel Z ⟨s.sl, s.it ++ its, s.st⟩ σs (fun b => A b ∨ A1 b) (L ++ L1) σ w' := by
 have hlt := St.lt hr
 have hsame : Same A w w' := fun b hb => hk.same b (hlt b hb) fun h => (hBX b h).1 hb
 have hmem : MemR (fun b => A b ∧ Z.R b) w' L s σs σ := Fact.step _ (hr.fact 0 (f := Ayk Z.R L s σs σ) rfl) (fun _ h => h) hsame hk.gr
 have hold : (Fact.old Z.M Z.w0).holds A w' := Fact.step _ (hr.fact 1 (f := .old Z.M Z.w0) rfl) (fun _ h => h) hsame hk.gr
 have hl := LeL.append L L1
 have hst : St (fun b => A b ∨ A1 b) w' [.old Z.M Z.w0] (L1.map MD.Jv ++ L.map MD.Jv) := by
  refine ⟨fun b hb => hb.elim (fun h => Nat.lt_of_lt_of_le (hlt b h) hk.gr.le) (fun h => (hA1 b h).2), fun f hf => ?_, ?_⟩
  ·cases hf with
   | head => exact Fact.step _ hold (fun _ h => .inl h) (fun _ _ => rfl) (.refl _)
   | tail _ h => cases h
  ·refine Mobs.append (fun b => b < w.heap.size ∧ ¬ BX b) (fun b hb => Nat.lt_of_lt_of_le hb.1 hk.gr.le) (hm.Ahd ?_) ?_
   ·rintro b ((h | h) | h)
    ·exact .inr ⟨hlt b h, fun hx => (hBX b hx).1 h⟩
    ·exact .inl h
    ·exact .inr h
   ·refine (hY.lt.step hk.gr.le fun b hb hn => hk.same b hb fun h => hn (.inl (.inr h))).Ahd ?_
    rintro b ((h | h) | h)
    ·exact .inl (.inl h)
    ·rcases (hA1 b h).1 with h | h
     ·exact .inl (.inr (Classical.not_not.1 h))
     ·exact .inr h
    ·by_cases hx : BX b
     ·exact .inl (.inr hx)
     ·exact .inr (Nat.le_of_not_lt fun hl => h ⟨hl, hx⟩)
 have hb : ∀ b, A b ∧ Z.R b → (A b ∨ A1 b) ∧ Z.R b := fun b h => ⟨.inl h.1, h.2⟩
 refine Rel.as (Mobs.As4 hst List.perm_append_comm) (i := 0) rfl ⟨⟨?_, ?_⟩, hmem.sl.step hb (fun _ _ => rfl) hl, hmem.stk.step hb (fun _ _ => rfl) hl⟩ (by rw [List.map_append])
 ·simp [hmem.it.1, hlen]
 ·intro i a m g1 g2
  simp only at g1
  rcases Nat.lt_or_ge i s.it.length with hi | hi
  ·rw [List.getElem?_append_left hi] at g1
   rw [List.getElem?_append_left (by rw [← hmem.it.1]; exact hi)] at g2
   exact (hmem.it.2 i a m g1 g2).step hb (fun _ _ => rfl) hl
  ·rw [List.getElem?_append_right hi] at g1
   rw [List.getElem?_append_right (by rw [← hmem.it.1]; exact hi)] at g2
   rw [hmem.it.1] at g1
   exact hit _ a m g1 g2
theorem Mobs.split : ∀ {X Y : List Mob} {A : Reg}, Mobs w A (X ++ Y) → ∃ BX : Reg, (∀ b, BX b → ¬ A b ∧ b < w.heap.size) ∧ Mobs w (fun b => ¬ BX b) X ∧ Mobs w (fun b => A b ∨ BX b) Y
 | [], Y, A, h => ⟨fun _ => False, fun b hb => hb.elim, trivial, h.Ahd fun b hb => hb.elim id fun h => h.elim⟩
 | m :: X, Y, A, ⟨o, h1, h2, h3⟩ => by
  obtain ⟨BX, g1, g2, g3⟩ := Mobs.split h3
  refine ⟨fun b => BX b ∨ o = some b, fun b hb => ?_, ⟨o, h1, fun b hb => ⟨fun h => h (.inr hb), (h2 b hb).2⟩, g2.Ahd ?_⟩, g3.Ahd ?_⟩
  ·rcases hb with hb | hb
   ·exact ⟨fun h => (g1 b hb).1 (.inl h), (g1 b hb).2⟩
   ·exact h2 b hb
  ·rintro b (hb | hb)
   ·exact fun h => hb (.inl h)
   ·exact fun h => (g1 b h).1 (.inr hb)
  ·rintro b (hb | hb | hb)
   ·exact .inl (.inl hb)
   ·exact .inr hb
   ·exact .inl (.inr hb)
theorem Mobs.Bz9 : ∀ {Y : List Mob} {A : Reg} {i : Nat} {m : Mob}, Mobs w A Y → Y[i]? = some m → ∃ o, m.holds o w ∧ ∀ b, o = some b → ¬ A b
 | _ :: _, A, 0, m, ⟨o, h1, h2, _⟩, h => ⟨o, by simp at h; exact h ▸ h1, fun b hb => (h2 b hb).1⟩
 | _ :: Y, A, i + 1, m, ⟨o, _, _, h3⟩, h => by
  obtain ⟨q, g1, g2⟩ := Mobs.Bz9 h3 (i := i) (by simpa using h)
  exact ⟨q, g1, fun b hb hA => g2 b hb (.inl hA)⟩
theorem Bh1 {w : World} : MD.dead.Jv.holds none w := ⟨none, 0, 0, rfl, by simp, Nat.le_refl _, fun _ => rfl, fun _ => rfl, fun b h => by cases h⟩
theorem Acs {i : Nat} : ∀ {l : List Nat}, Abe i l = true ↔ i ∈ l
 | [] => by simp [Abe]
 | j :: l => by
  simp only [Abe, Bool.or_eq_true, List.mem_cons, Acs (l := l)]
  exact or_congr ⟨Cf, fun h => by subst h; simp⟩ Iff.rfl
theorem Axb {f : Item → Item} (hf : f .dead = .dead) : ∀ {l : List Item} {i : Nat}, Cc (l.map f) i = f (Cc l i)
 | [], _ => by simp [Cc, hf]
 | _ :: _, 0 => rfl
 | _ :: r, i + 1 => by simpa [Cc] using Axb hf (l := r) (i := i)
theorem Ar7 : ∀ {l : List Item} {i j : Nat}, Cc l i = .dead → Cc (Adz l j .dead) i = .dead
 | [], _, _, h => by simpa [Adz] using h
 | _ :: _, 0, 0, _ => rfl
 | _ :: _, 0, j + 1, h => by simpa [Adz, Cc] using h
 | _ :: _, i + 1, 0, h => by simpa [Adz, Cc] using h
 | _ :: r, i + 1, j + 1, h => by simpa [Adz, Cc] using Ar7 (l := r) (i := i) (j := j) (by simpa [Cc] using h)
theorem Aq4 : ∀ {l : List Item} {i : Nat}, Cc (Adz l i .dead) i = .dead
 | [], _ => rfl
 | _ :: _, 0 => rfl
 | _ :: r, i + 1 => by simpa [Adz, Cc] using Aq4 (l := r) (i := i)
theorem Ba8 {i : Nat} : ∀ {is : List Nat} {s s' : S}, Cc s.it i = .dead → s.Axv is = some s' → Abe i is = false
 | [], _, _, _, _ => rfl
 | j :: is, s, s', hd, h => by
  simp only [S.Axv] at h
  split at h
  ·rename_i s1 h1
   unfold S.kill at h1
   split at h1
   ·rename_i E e l hj
    cases h1
    have hij : Nat.beq i j = false := by
     cases hb : Nat.beq i j with
     | false => rfl
     | true => rw [Cf hb] at hd; rw [hd] at hj; cases hj
    have : Cc ((s.upd j .dead).sub j .any).it i = .dead := by
     show Cc ((Adz s.it j .dead).map _) i = _
     rw [Axb rfl, Ar7 hd]; rfl
    simp [Abe, hij, Ba8 this h]
   ·cases h1
  ·cases h
theorem Bi8 : ∀ {is : List Nat} {s s' : S} {L : List MD}, MemR B w L s σs σ → (∀ (i z : Nat) (E : TypeId) (v : Value) (c : List Value), L[i]? = some (.own z E v c) → v.oneCell' = true) → s.Axv is = some s' →
  ∃ L', MemR B w L' s' σs σ ∧ (is = [] → L' = L) ∧ (∀ j, Abe j is = false → L'[j]? = L[j]?) ∧ ∀ (A : Reg) (X : List Mob), Mobs w A (X ++ L.map MD.Jv) → Mobs w A (X ++ (is.map fun i => (L.getD i .dead).Jv) ++ L'.map MD.Jv)
 | [], s, s', L, hm, _, h => by
  simp only [S.Axv, Option.some.injEq] at h; subst h
  exact ⟨L, hm, fun _ => rfl, fun _ _ => rfl, fun A X hX => by simpa using hX⟩
 | i :: is, s, s', L, hm, hone, h => by
  simp only [S.Axv] at h
  split at h
  ·rename_i s1 h1
   unfold S.kill at h1
   split at h1
   ·rename_i E e l hi
    cases h1
    obtain ⟨v, cs, hL, _⟩ := hm.arr hi
    have hf : Frz B w L i .any := ⟨fun z E' u c h => ⟨u, rfl, by rw [hL] at h; cases h; exact hone _ _ _ _ _ hL⟩, rfl, rfl⟩
    have hm2 := hm.subst hf
    have hlt := (List.getElem?_eq_some_iff.1 hL).1
    obtain ⟨L', g1, g2, g3, g4⟩ := Bi8 hm2 (fun j z E v c hj => by
     by_cases hji : j = i
     ·subst hji; rw [List.getElem?_set_self hlt] at hj; cases hj
     ·rw [List.getElem?_set_ne (Ne.symm hji)] at hj; exact hone _ _ _ _ _ hj) h
    refine ⟨L', g1, (fun e => by cases e), fun j hj => ?_, fun A X hX => ?_⟩
    ·simp only [Abe, Bool.or_eq_false_iff] at hj
     rw [g3 j hj.2, List.getElem?_set_ne (fun e => by subst e; simp at hj)]
    ·have hmob : (L.map MD.Jv)[i]? = some (L.getD i .dead).Jv := by simp [hL, List.getD_eq_getElem?_getD]
     have hX1 : Mobs w A (MD.dead.Jv :: (L.map MD.Jv).eraseIdx i ++ (X ++ [(L.getD i .dead).Jv])) := by
      have h1 : Mobs w A (MD.dead.Jv :: (X ++ L.map MD.Jv)) := ⟨none, Bh1, fun b hb => (by cases hb), hX.Ahd fun b hb => hb.elim id fun h => by cases h⟩
      refine h1.perm (.cons _ ?_)
      have hp := (Auo hmob).symm
      refine (List.Perm.append_left X hp).trans ?_
      rw [show X ++ (L.getD i .dead).Jv :: (L.map MD.Jv).eraseIdx i = (X ++ [(L.getD i .dead).Jv]) ++ (L.map MD.Jv).eraseIdx i by simp]
      exact List.perm_append_comm
     have hX2 : Mobs w A ((X ++ [(L.getD i .dead).Jv]) ++ (L.set i .dead).map MD.Jv) := by
      refine hX1.perm (List.perm_append_comm.trans (List.Perm.append_left _ ?_))
      rw [List.map_set]; exact Ani hmob
     have := g4 A _ hX2
     have hni : Abe i is = false := Ba8 (s := (s.upd i .dead).sub i .any) (by
      show Cc ((Adz s.it i .dead).map _) i = _
      rw [Axb rfl, Aq4]; rfl) h
     have he : (is.map fun j => ((L.set i .dead).getD j .dead).Jv) = is.map fun j => (L.getD j .dead).Jv := by
      refine List.map_congr_left fun j hj => ?_
      have : j ≠ i := fun e => by
       subst e
       rw [Acs.2 hj] at hni; cases hni
      simp only [List.getD_eq_getElem?_getD, List.getElem?_set_ne (Ne.symm this)]
     rw [he] at this
     simpa using this
   ·cases h1
  ·cases h
theorem Ax.noL : ∀ {e : ET} {x : e.T} {cs : List Value}, e.Bbf = false → Ax B w e x cs → Ax B' w' e x cs
 | .int k, x, cs, _, h => h
 | .bool, x, cs, _, h => h
 | .str, x, cs, _, h => h
 | .list e, l, cs, hL, h => by cases hL
 | .vec m e, l, cs, hL, ⟨h1, h2⟩ => ⟨h1, h2.mono fun x c h => Ax.noL (e := e) hL h⟩
 | .cons a q, x, cs, hL, ⟨c1, c2, e, h1, h2⟩ => by
  simp only [ET.Bbf, Bool.or_eq_false_iff] at hL
  exact ⟨c1, c2, e, Ax.noL hL.1 h1, Ax.noL hL.2 h2⟩
 | .nil, _, cs, _, h => h
theorem Azm : ∀ {ls : List (ET × Option TypeId)} {vs : List PV}, owns.go vs = [] → Wo ls vs = []
 | [], _, _ => by unfold Wo; rfl
 | _ :: _, [], _ => by unfold Wo; rfl
 | (e, o) :: ls, v :: vs, h => by
  simp only [owns.go, List.append_eq_nil_iff] at h
  cases o <;> simp [Wo, h.1, Azm h.2]
theorem Rel.out (hr : Rel Z s σs A L σ w) {b : Nat} (hb : ¬ A b) : Z.R b := by
 rcases Nat.lt_or_ge b Z.w0.heap.size with hlt | hge
 ·have hold := (hr.fact 1 (f := .old Z.M Z.w0) rfl).2 b hlt
  exact Z.mod b (Classical.byContradiction fun hM => hb (hold hM).1)
 ·exact Z.new b hge
theorem Bvi {f : Nat} {caps : List PV} {as : Array Operand} {g : Operand} {ts : Array TypeId} {dn : Nat} {G : Prop} (hT : Avp P T Z) (hI : Aq5 P T.gl inl) (hr0 : Rel Z s σs A L σ w) (hg : Ej s.sl g = .fn f caps)
  (hd : Ki n ⟨some dn, .call ⟨.value g, as, ts⟩, ty, pos, after, none⟩ = true) (h : Bki P T inl s (some dn) f caps as.toList k = some r)
  (hG : G → ∃ c, T.get f = some c ∧ Ber (shL c.ps) = true ∧ (Bbe c = false ∨ owns.go (as.toList.map (Ej s.sl)) = [])) :
  Adv P n ops ⟨some dn, .call ⟨.value g, as, ts⟩, ty, pos, after, none⟩ Z s σs k r G A L σ w := by
 obtain ⟨cvs, hgv, hcaps⟩ := Bvd (Cr hr0.mem.sl hg rfl)
 have has : as = as.toList.toArray := by simp
 have hxe : Ent P f → XE P σ w (.call ⟨.value g, as, ts⟩) f (as.toList.map (ev σ) ++ cvs).toArray := fun he => by
  have := X.Bz8 (P := P) (σ := σ) (w := w) (args := as.toList) (ts := ts) he hgv rfl
  rw [← has] at this; exact this
 unfold Bki at h
 split at h
 ·rename_i c hc
  have hcon := hT.1 f c hc
  split at h
  ·have hc0 : cvs = [] := hcaps
   subst hc0
   split at h
   ·cases h
   ·rename_i ls0 hls0
    split at h
    ·cases h
    ·rename_i s1 hs1
     obtain ⟨A1, L1, hr, hsame⟩ : ∃ A1 L1, Rel Z s1 σs A1 L1 σ w ∧ (G → s1 = s ∧ A1 = A ∧ L1 = L) := by
      split at hs1
      ·rename_i hro
       obtain ⟨A1, L1, h1, h2⟩ := Tr hr0 hs1
       refine ⟨A1, L1, h1, fun g => h2 ?_⟩
       obtain ⟨c', hc', _, h3⟩ := hG g
       rw [hc] at hc'; cases hc'
       rcases h3 with h3 | h3
       ·rw [hro] at h3; cases h3
       ·exact Azm (by rw [Aum hls0]; exact h3)
      ·cases hs1; exact ⟨A, L, hr0, fun _ => ⟨rfl, rfl, rfl⟩⟩
     cases hP : Bjz (as.toList.map (Ej s1.sl)) with
     | false => rw [hP] at h; cases h
     | true =>
     rw [hP] at h
     simp only [Bool.not_true, cond_false] at h; try dsimp only [Ch] at h
     split at h
     ·cases h
     ·rename_i ls hls
      cases hro2 : (Bbe c && !(Wo (shL c.ps) ls).isEmpty) with
      | true => rw [hro2] at h; cases h
      | false =>
      rw [hro2] at h
      dsimp only [Ch, cond] at h
      split at h
      ·cases h
      ·rename_i x hx
       split at h
       ·cases h
       ·rename_i is his
        cases hdis : (!((Wo (shL c.ps) ls).all fun i => !Abe i is)) with
        | true => rw [hdis] at h; cases h
        | false =>
        rw [hdis] at h
        dsimp only [Ch, cond] at h
        split at h
        ·cases h
        ·rename_i s2 hs2
         obtain ⟨y, hy, h⟩ := bind_some h
         change (match Ary c.rs (Ep (shL c.rs) y s2).1 with | some vs => k ((Ep (shL c.rs) y s2).2.Gy (some dn) (Bhn vs)) | none => none) = some r at h
         have hpv := Ayp hr.mem.sl _ hP
         have hone : ∀ (i z : Nat) (E : TypeId) (v : Value) (c : List Value), L1[i]? = some (.own z E v c) → v.oneCell' = true := fun i z E v c hi => by
          obtain ⟨p, len, cap, rfl, _⟩ := hr.Yh hi; rfl
         obtain ⟨L2, hm2, hnil, hget, hmobs⟩ := Bi8 hr.mem hone hs2
         obtain ⟨BX, hBX, hX, hY⟩ := Mobs.split (hmobs A1 [] (by simpa using St.mobs hr))
         have hr2 : Rel Z s2 σs A1 L2 σ w := Rel.as (h := (⟨St.lt hr, hr.facts, hY.Ahd fun _ h => .inl h⟩ : St A1 w _ (L2.map MD.Jv))) (i := 1) rfl hm2 rfl
         have hL0 : Mobs w (fun b => ¬ BX b) ((Ng L1 (shL c.ps) ls).map MD.Jv) := Au3 (N := fun _ => True) his (by simpa using hX)
         have key : ∀ R0 : Reg, (∀ b, A1 b ∧ Z.R b → R0 b) → (Wo (shL c.ps) ls = [] ∨ ∀ b, R0 b) → (Bbe c = true → ∀ b, R0 b → A1 b ∧ Z.R b) →
           Adv P n ops ⟨some dn, .call ⟨.value g, as, ts⟩, ty, pos, after, none⟩ Z s σs k r G A L σ w := by
          intro R0 h1 h2 h3
          have hb1 : ∀ b, A1 b ∧ Z.R b → R0 b ∧ ¬ BX b := fun b hb => ⟨h1 b hb, fun hx => (hBX b hx).1 hb.1⟩
          obtain ⟨its0, e1, e2, e3, e4⟩ := Bd6 (B1 := fun b => R0 b ∧ ¬ BX b) hr hb1 (shL c.ps) ls x is ⟨[], [], []⟩ [] (Ng L1 (shL c.ps) ls) hx his (fun i hi z E v cc hLi => by
           rcases h2 with h2 | h2
           ·rw [h2] at hi; cases hi
           ·have hni : Abe i is = false := by
             have := hdis
             simp only [Bool.not_eq_false', List.all_eq_true, Bool.not_eq_true'] at this
             exact this i hi
            have hLi2 := (hget i hni).trans hLi
            obtain ⟨o, g1, g2⟩ := Mobs.Bz9 hY (hr2.Jv hLi2)
            exact (Go.Lv.Yh g1).step (fun b hb => ⟨h2 b, fun hx => g2 b hb (.inr hx)⟩) (fun _ _ => rfl)) rfl rfl
          obtain ⟨ps, h5, h6⟩ := Au4 hls hpv e3
          have hit0 : argI c.ps x = its0 := by unfold argI; rw [e1]; rfl
          have hcall := hcon.ok R0 (fun b => ¬ BX b) w _ _ ps x y h5 (by rw [hit0]; exact e2) (by rw [hit0]; exact e4) hL0 h6 (fun p hp => by
           obtain ⟨hA, T1, fr, hh⟩ := hr.Bra (hT.2 ▸ hp)
           exact ⟨Qj hh, fun hx => (hBX _ hx).1 hA.1, T1, fr, hh⟩) hy
          have hxe' := hxe hcon.ent
          rw [List.append_nil] at hxe'
          refine WL.e (Aoz hd) hxe' hcall ?_
          rintro e w' ⟨us, rfl, hk, A2, LL, hA2, hm3, hres⟩
          refine ⟨_, rfl, WL.nil ?_⟩
          have hnew : ∀ b, A2 b → Z.R b := fun b hb => by
           rcases (hA2 b hb).1 with h7 | h7
           ·exact hr.out (hBX b (Classical.not_not.1 h7)).1
           ·refine Z.new b ?_
            have h8 : Z.w0.heap.size ≤ w.heap.size := (hr.fact 1 (f := .old Z.M Z.w0) rfl).1.le
            omega
          obtain ⟨ps', its, g1, g2, g3, g4, g5⟩ := hres s2 L2 (fun b => (A1 b ∨ A2 b) ∧ Z.R b) hr2.len.symm (fun b hb => ⟨.inr hb, hnew b hb⟩) (fun hro b hb => by
           rcases hb with hb | ⟨p, hp, rfl⟩
           ·exact ⟨.inl (h3 hro b hb.1).1, (h3 hro b hb.1).2⟩
           ·exact ⟨.inl (hr.Bra (hT.2 ▸ hp)).1.1, (hr.Bra (hT.2 ▸ hp)).1.2⟩)
          have hr' := Rel.Bpf hr2 hBX hY hk hA2 hm3 g4 g5
          obtain ⟨hv, hv'⟩ := Bg7 g3
          rw [g2] at h
          refine ⟨_, fun b => A1 b ∨ A2 b, L2 ++ LL, h, ?_, fun gg => ?_⟩
          ·rw [g1]; exact hr'.Gy (d := some dn) hv hv'
          ·obtain ⟨e1', e2', e3'⟩ := hsame gg
           obtain ⟨c', hc', hno, _⟩ := hG gg
           rw [hc] at hc'; cases hc'
           have his0 := Avs hno his
           subst his0
           have hs12 : s1 = s2 := by simpa [S.Axv] using hs2
           have hL12 := hnil rfl
           subst hs12 hL12 e1' e2' e3'
           rw [g1]
           exact ⟨fun b hb => .inl hb, fun b hb => hk.same b (St.lt hr b hb) fun hx => (hBX b hx).1 hb, ⟨LL, rfl⟩, ⟨its, rfl⟩⟩
         cases hro' : Bbe c with
         | true =>
          refine key (fun b => A1 b ∧ Z.R b) (fun _ h => h) (.inl ?_) (fun _ _ h => h)
          rw [hro'] at hro2
          simp only [Bool.true_and, Bool.not_eq_false'] at hro2
          exact isEmpty_nil hro2
         | false => exact key (fun _ => True) (fun _ _ => trivial) (.inr fun _ => trivial) (fun h => by rw [hro'] at h; cases h)
  ·cases h
 ·rename_i hn
  obtain ⟨hP, h⟩ := Az h
  have hpv := EncVs.append (Ayp hr0.mem.sl _ hP) hcaps
  obtain ⟨he, hcall⟩ := hI Z hT.2 f _ s _ r σs A L σ w _ h hr0 hpv
  refine WL.e (Aoz hd) (hxe he) hcall ?_
  rintro e w' ⟨v, p, s', A', L', rfl, hk, hr', hv, hv'⟩
  refine ⟨_, rfl, WL.nil ⟨_, A', L', hk, hr'.Gy (d := some dn) hv hv', fun gg => ?_⟩⟩
  obtain ⟨c, hc, _⟩ := hG gg
  rw [hn] at hc; cases hc
end Go.Rx
set_option linter.unusedVariables false
set_option linter.unusedSimpArgs false
namespace Go.Rx
open Go Go.Lv
variable {P : Program} {B B' : Reg} {w w' : World} {L L' : List MD} {s : S} {σs : List Env} {σ : Env} {Z : Fix} {A A' : Reg} {n : Nat} {ops : Array Oper}
variable {R : Type} {k : S → Option R} {r : R} {d : Option Nat} {ty : TypeId} {pos : String} {after : Array Edge} {T : Tab} {inl : Inl R}
theorem Al3 {l : List Oper} {K K' : Env → World → Prop} (h : WL P n ops l K σ w) (hk : ∀ σ w, K σ w → K' σ w) : WL P n ops l K' σ w := by
 have := WL.cut (rest := []) K l h (fun σ w h => WL.nil (hk σ w h))
 rwa [List.append_nil] at this
theorem Bdq {cs : Array Value} {v : PV} (h : At1 P ty (.agg cs) = some v) (hA : v.isA = true) : v.isV = true ∧ Eg B w L v (.agg cs) := by
 have h1 := Auh (B := B) (w := w) (L := L) h
 have h2 : Iw B w L v (.agg cs) := by
  unfold Iw; rw [hA]
  exact ⟨cs.toList, by simp, h1⟩
 exact Kk h2
theorem Bf1 {a : Option R} : ∀ {l : List (Option R)}, both a l = some r → a = some r ∧ ∀ b ∈ l, b = some r
 | [], h => ⟨h, by simp⟩
 | b :: l, h => by
  unfold both at h
  split at h
  ·rename_i hab
   obtain ⟨h1, h2⟩ := Bf1 h
   exact ⟨h1, fun c hc => by
    rcases List.mem_cons.1 hc with rfl | hc
    ·exact hab ▸ h1
    ·exact h2 c hc⟩
  ·cases h
theorem Bwl {α : Type} {l : List α} {a b : Option R} (h : Bbl l a b = some r) : b = some r ∧ (l = [] → a = some r) := by
 cases l with
 | nil =>
  obtain ⟨h1, h2⟩ := Bf1 h
  exact ⟨h2 _ (.head _), fun _ => h1⟩
 | cons x l => exact ⟨h, fun e => by cases e⟩
theorem Axa {o : BinOp} {t e t' : TypeId} {x y : Operand} {q : Bool} {p : Option Addr} {l c : Nat} (h : Bcg o = some q) (ht : P.underlying t = some (.slice e)) (hx : ev σ x = .slice p l c) (hy : ev σ y = .slice none 0 0) :
  XO P σ w (.binOp o t x y t') (.bool (p.isNone == q)) := by
 cases o <;> simp only [Bcg, Option.some.injEq, reduceCtorEq] at h <;> subst h
 ·have := X.bin (w := w) (t' := t') hx hy (Bin.Bvy ht p l c)
  simpa using this
 ·have := X.bin (w := w) (t' := t') hx hy (Bin.Bv3 ht p l c)
  cases p <;> simpa using this
theorem elem_nil {B : Reg} {e : ET} {l : List e.T} (hz : Nat.ble 1 e.size = true) (h : Bt (Ax B w e) l []) : l = [] := by
 have h1 := Bt.len (fun x c h => Ax.len h) h
 have h2 : 1 ≤ e.size := by simpa using hz
 cases l with
 | nil => rfl
 | cons a l =>
  simp only [List.length_cons, List.length_nil] at h1
  have : 0 < (l.length + 1) * e.size := Nat.mul_pos (by omega) (by omega)
  omega
theorem Btr {o : BinOp} {t t' : TypeId} {x y : Operand} {a : PV} {dn : Nat} {G : Prop} (hr : Rel Z s σs A L σ w) (hd : Ki n ⟨some dn, .binOp o t x y t', ty, pos, after, none⟩ = true) (hx : Ej s.sl x = a) (hy : Ej s.sl y = .nils)
  (h : Bqr P s dn o t a k = some r) : Adv P n ops ⟨some dn, .binOp o t x y t', ty, pos, after, none⟩ Z s σs k r G A L σ w := by
 have hm := hr.mem
 have hy' := Agf (Cr hm.sl hy rfl)
 unfold Bqr at h
 split at h
 ·rename_i q e hq ht
  have main : ∀ {α : Type} {l : List α} {p : Option Addr} {len c : Nat}, ev σ x = .slice p len c → (p = none → l = []) → Bbl l (k (s.set dn (.b q))) (k (s.set dn (.b (!q)))) = some r → Adv P n ops ⟨some dn, .binOp o t x y t', ty, pos, after, none⟩ Z s σs k r G A L σ w := by
   intro α l p len c hv hp h
   obtain ⟨h1, h2⟩ := Bwl h
   cases hn : p.isNone with
   | true =>
    have hk := h2 (hp (by simpa using hn))
    have hxo := Axa (w := w) (t' := t') hq ht hv hy'
    rw [hn] at hxo
    have hb : (true == q) = q := by cases q <;> rfl
    rw [hb] at hxo
    exact Dk (p := .b q) hr hd hxo rfl rfl hk
   | false =>
    have hxo := Axa (w := w) (t' := t') hq ht hv hy'
    rw [hn] at hxo
    have hb : (false == q) = !q := by cases q <;> rfl
    rw [hb] at hxo
    exact Dk (p := .b (!q)) hr hd hxo rfl rfl h1
  split at h
  ·have hv := Agf (Cr hm.sl hx rfl)
   have hxo := Axa (w := w) (t' := t') hq ht hv hy'
   have hb : ((none : Option Addr).isNone == q) = q := by cases q <;> rfl
   rw [hb] at hxo
   exact Dk (p := .b q) hr hd hxo rfl rfl h
  ·split at h
   ·obtain ⟨hz, h⟩ := Az h
    obtain ⟨c0, h1, h2⟩ := Acf (Cr hm.sl hx rfl)
    have h1' := h1
    obtain ⟨p, len, cap, hv, h3, h4, h5, h6⟩ := h1
    refine main hv (fun hp => ?_) h
    subst hp
    have : c0 = [] := Go.Lv.Rd.Bg5 (by rw [← hv]; exact h1')
    subst this
    have := h5 rfl
    exact elem_nil hz h2
   ·cases h
  ·rename_i i
   split at h
   ·rename_i E e' l hi
    obtain ⟨hz, h⟩ := Az h
    obtain ⟨v, cs, h1, h2⟩ := hm.arr hi
    obtain ⟨z, E', c0, h3⟩ := Ahm (Cr hm.sl hx rfl)
    rw [h1] at h3
    cases h3
    have hrd := hr.Yh h1
    have h1' := hrd
    obtain ⟨p, len, cap, hv, h4, h5, h6, h7⟩ := hrd
    refine main hv (fun hp => ?_) h
    subst hp
    have : cs = [] := Go.Lv.Rd.Bg5 (by rw [← hv]; exact h1')
    subst this
    exact elem_nil hz h2
   ·cases h
  ·cases h
 ·cases h
theorem Blz {i b off : Nat} {md : MD} {ns : List Value} {F : List Fact} (hr : St A w F (L.map MD.Jv)) (h : L[i]? = some md) (hb : md.base = some b) (h1 : ns.all (·.oneCell') = true) (hle : off + ns.length ≤ md.cells.length) (hz : 0 < ns.length) :
  ∃ w' md', (storeCells ⟨b, off, none⟩ ns).run P w = .ok () w' ∧ St A w' F ((L.map MD.Jv).set i md'.Jv) ∧ Abd off ns md md' := by
 cases md with
 | dead => cases hb
 | box b' cells T =>
  cases hb
  have hL : (L.map MD.Jv)[i]? = some (Mob.box b cells T) := Be7 h
  have hr' := Hb (P := P) b T (0, 0) ns off 0 cells w (hr.box hL) (by simpa [MD.cells] using hle) (.inr (.inr (Nat.le_refl _))) (fun v hv => by simpa using List.all_eq_true.1 h1 v hv)
  simp only [Nat.add_zero] at hr'
  exact ⟨_, .box b (Bb cells off ns) T, hr', hr.Bqf hL, rfl⟩
 | own z' E u cs =>
  obtain ⟨b', m, c, hu, hs'⟩ := St.Be0 hr (Be7 h) (by simp [MD.cells] at hle; omega)
  subst hu
  cases hb
  have hlen : i < (L.map MD.Jv).length := by simpa using (List.getElem?_eq_some_iff.1 h).1
  have hL : ((L.map MD.Jv).set i (.at_ b z' E m c cs))[i]? = some (.at_ b z' E m c cs) := by rw [List.getElem?_set_self hlen]
  have hle' : off + ns.length ≤ cs.length := hle
  have hcore : ∃ w', (storeCells ⟨b, off, none⟩ ns).run P w = .ok () w' ∧ St A w' F (((L.map MD.Jv).set i (.at_ b z' E m c cs)).set i (.at_ b z' E m c (Bb cs off ns))) := by
   obtain ⟨o, ho, _, _⟩ := (hs'.front hL).mobs
   obtain ⟨rfl, ho⟩ := ho
   have ho' := ho
   obtain ⟨_, len, cap, e, h3, h4, h5, h5', h6⟩ := ho
   cases e
   obtain ⟨arr, fr, e, hbb, hsz', hfz, hcells⟩ := h6 b rfl
   have hcl : cs.length ≤ arr.size := by rw [h3, hsz']; exact Nat.mul_le_mul_right _ h4
   have hr' := Hb (P := P) b E fr ns off 0 arr.toList w (by simpa using hbb) (by simp; omega) (by simp; rcases hfz with h | h; exact .inr (.inr (Nat.le_of_eq h.symm)); exact .inr (.inl h)) (fun v hv => by simpa using List.all_eq_true.1 h1 v hv)
   simp only [Nat.add_zero] at hr'
   have hbl := Qj hbb
   have hcs' : (Bb cs off ns).length = cs.length := Fe (by omega)
   have hget : ∀ i, i < m * z' → (Bb arr.toList off ns)[i]? = (Bb cs off ns)[i]? := fun i hi => by
    have hmin1 : min off arr.toList.length = off := by simp; omega
    have hmin2 : min off cs.length = off := by omega
    simp only [Bb, List.getElem?_append, List.length_take, hmin1, hmin2, List.getElem?_take, List.getElem?_drop]
    by_cases g1 : i < off
    ·rw [if_pos g1, if_pos g1, if_pos g1, if_pos g1]; simpa using hcells i hi
    ·rw [if_neg g1, if_neg g1]
     by_cases g2 : i - off < ns.length
     ·rw [if_pos g2, if_pos g2]
     ·rw [if_neg g2, if_neg g2]
      have e1 : off + ns.length + (i - off - ns.length) = i := by omega
      rw [e1]; simpa using hcells i hi
   refine ⟨_, hr', hs'.Aq0 hL (b := b) ⟨rfl, ho'⟩ ⟨rfl, _, m, c, rfl, by rw [hcs', h3], h4, h5, h5', fun b' hb' => ?_⟩ ?_⟩
   ·cases hb'
    refine ⟨(Bb arr.toList off ns).toArray, fr, rfl, by simp [Fl, hbl], ?_, ?_, fun i hi => ?_⟩
    ·simp only [List.size_toArray]; rw [Fe (by simp; omega)]; simpa using hsz'
    ·simp only [List.size_toArray]; rw [Fe (by simp; omega)]; simpa using hfz
    ·simpa using hget i hi
   ·rintro ⟨q, hq, q1, q2⟩
    exact ⟨q, hq, q1, q2, hq.1⟩
  obtain ⟨w', g1, g2⟩ := hcore
  have hs3 := g2.Bz1 (i := i) (b := b) (s := z') (m := m) (c := c) (E := E) (cs := Bb cs off ns) (by rw [List.getElem?_set_self (by simpa using hlen)])
  rw [List.set_set, List.set_set] at hs3
  exact ⟨w', .own z' E (.slice (some ⟨b, 0, none⟩) m c) (Bb cs off ns), g1, hs3, rfl⟩
structure SrcW (P : Program) (w : World) (vy : Value) (z ly : Nat) (ys : List Value) : Prop where
 len : (Builtin.lenOf vy).run P w = .ok ly w
 first : ∀ m, m ≤ ly → (Builtin.firstCells z m vy).run P w = .ok (ys.take (m * z)).toArray w
theorem SrcW.rd {vy : Value} {z ly : Nat} {ys : List Value} (h : Rd (fun _ => True) w z vy ys) (hl : ys.length = ly * z) (hz : 0 < z) : SrcW P w vy z ly ys := by
 obtain ⟨p, len, cap, rfl, h2, h3, h4, h5⟩ := h
 have he : len = ly := Nat.eq_of_mul_eq_mul_right hz (h2.symm.trans hl)
 subst he
 refine ⟨rfl, fun m hm => ?_⟩
 cases p with
 | none =>
  have : m = 0 := by have := h4 rfl; omega
  subst this
  simp [Builtin.firstCells]
 | some a =>
  have hlen : (ys.take (m * z)).length = m * z := by
   rw [List.length_take, h2]
   have := Nat.mul_le_mul_right z hm
   omega
  simp only [Builtin.firstCells]
  by_cases hc : 0 < cap
  ·obtain ⟨b, off, arr, T, fr, e1, _, e2, _, e4⟩ := h5 hc
   cases e1
   have := Mm (P := P) (w := w) (b := b) (off := off) (ys.take (m * z)) (fun i hi => by
    rw [hlen] at hi
    have h6 : i < len * z := Nat.lt_of_lt_of_le hi (Nat.mul_le_mul_right z hm)
    rw [cell_of e2, e4 i h6, List.getElem?_take, if_pos hi])
   rw [hlen] at this
   exact this
  ·have : m = 0 := by omega
   subst this
   simp [loadCells, loadCellsFrom]
theorem SrcW.str {l : List UInt8} : SrcW P w (sv l) 1 l.length (Ae2 (k := .u8) l) := by
 refine ⟨by simp [Builtin.lenOf, ByteArray.size], fun m hm => ?_⟩
 simp only [Builtin.firstCells, At4, Sem.run_pure]
 congr 1
 simp [Ae2, List.map_take]
 rfl
theorem Bgf {e : ET} {t2 : TypeId} {y : Operand} {m : List e.T} (hr : Rel Z s σs A L σ w) (hz : 0 < e.size) (h : Br3 P s e t2 y = some m) : ∃ ys, Bt (Ax (fun b => A b ∧ Z.R b) w e) m ys ∧ SrcW P w (ev σ y) e.size m.length ys := by
 have hm := hr.mem
 have plain : elems s e (Ej s.sl y) = some m → ∃ ys, Bt (Ax (fun b => A b ∧ Z.R b) w e) m ys ∧ SrcW P w (ev σ y) e.size m.length ys := by
  intro h
  have hV : (Ej s.sl y).isV = true := by
   cases hq : (Ej s.sl y).isV with
   | true => rfl
   | false => rcases Acm hq with h' | h' | ⟨_, _, _, h'⟩ <;> rw [h'] at h <;> cases h
  obtain ⟨c0, h1, h2⟩ := Au1 hm h (Vs hm.sl y hV)
  have hrd : Rd (fun _ => True) w e.size (ev σ y) c0 := by
   rcases h2 with h2 | ⟨j, E', u, cs', _, h2, hpart⟩
   ·exact h2.step (fun _ _ => trivial) (fun _ _ => rfl)
   ·exact hpart _ _ (hr.Yh h2)
  exact ⟨c0, h1, .rd hrd (h1.len fun x c h => Ax.len h) hz⟩
 unfold Br3 at h
 split at h
 ·split at h
  ·rename_i m0 hy
   unfold Asi at h
   split at h
   ·rename_i he
    cases he
    cases h
    rw [Xo hm.sl hy]
    exact ⟨Ae2 m0, Blr.Alc, .str⟩
   ·cases h
  ·cases h
 ·unfold Bs6 at h
  split at h
  ·rename_i i p e1 lo n' hy
   split at h
   ·rename_i T v hi
    split at h
    ·rename_i a x hg
     split at h
     ·rename_i q a l
      obtain ⟨hb, h⟩ := Az h
      simp only [Bool.and_eq_true, decide_eq_true_eq] at hb
      obtain ⟨⟨k1, k2, k3⟩, rfl⟩ := hb
      split at h
      ·rename_i ha
       subst ha
       cases h
       obtain ⟨md, v1, h3, h4, g1, g2, ⟨pt, cap, g3, g4, g5, g6⟩, _⟩ := Cr hm.sl hy rfl
       have h6 : ev σ y = v1 := by simpa using h4
       obtain ⟨b, cells, h7, h8⟩ := hm.box hi
       rw [h7] at h3; cases h3
       obtain ⟨c1, c2, c3, he, h9, h10, h11⟩ := Aoq hg h8
       have hlen2 := h11.len fun x c h => Ax.len h
       obtain ⟨lo', rfl⟩ := Int.eq_ofNat_of_zero_le k1
       obtain ⟨n1, rfl⟩ := Int.eq_ofNat_of_zero_le k2
       simp only [Int.toNat_natCast] at g3 g4 g6
       have hq : lo' + n1 ≤ l.length := by rw [h10]; omega
       have hsub : (Anz l lo' n1).length = n1 := by simp [Anz]; omega
       have e5 : lo' * a.size + n1 * a.size ≤ l.length * a.size := by rw [← Nat.add_mul]; exact Nat.mul_le_mul_right _ hq
       refine ⟨(c2.drop (lo' * a.size)).take (n1 * a.size), Bt.take (fun x c h => Ax.len h) _ (Bt.drop (fun x c h => Ax.len h) _ h11), ?_, fun m hm' => ?_⟩
       ·rw [h6, g3, hsub]; rfl
       ·rw [hsub] at hm'
        rw [h6, g3]
        have hml : m * a.size ≤ n1 * a.size := Nat.mul_le_mul_right _ hm'
        cases pt with
        | none =>
         have : m = 0 := by have := g5 rfl; omega
         subst this
         simp [Builtin.firstCells]
        | some ad =>
         simp only [Builtin.firstCells]
         by_cases hc : 0 < cap
         ·obtain ⟨bb, e1, e2⟩ := g6 hc
          cases e1
          cases e2
          have hlen3 : (((c2.drop (lo' * a.size)).take (n1 * a.size)).take (m * a.size)).length = m * a.size := by
           simp only [List.length_take, List.length_drop, hlen2]; omega
          have := Mm (P := P) (w := w) (b := b) (off := Ar p + lo' * a.size) (((c2.drop (lo' * a.size)).take (n1 * a.size)).take (m * a.size)) (fun i hi => by
           rw [hlen3] at hi
           have hcl : Ar p + lo' * a.size + i < (MD.box b cells T).cells.length := by
            simp only [MD.cells, he, List.length_append, h9, hlen2]; omega
           rw [hr.cells h7 rfl _ hcl]
           simp only [MD.cells]
           rw [he, List.getElem?_append_right (by omega), h9, show Ar p + lo' * a.size + i - Ar p = lo' * a.size + i by omega, List.getElem?_append_left (by rw [hlen2]; omega),
            List.getElem?_take, if_pos hi, List.getElem?_take, if_pos (by omega), List.getElem?_drop])
          rw [hlen3] at this
          exact this
         ·have : m = 0 := by omega
          subst this
          simp [loadCells, loadCellsFrom]
      ·cases h
     ·cases h
    ·cases h
   ·cases h
  ·exact plain h
 ·cases h
theorem Ax3 (cs : List Value) (o : Nat) : Bb cs o [] = cs := by simp [Bb]
theorem Bg8 {t t2 E : TypeId} {vx vy : Value} {z ly nv capv off i : Nat} {pt : Option Addr} {ys : List Value} {md : MD} {F : List Fact} (ht : P.underlying t = some (.slice E)) (hsz : SizeIs P E z) (hsrc : SrcW P w vy z ly ys) (hys : ys.length = ly * z) (h1 : ys.all (·.oneCell') = true)
  (hr : St A w F (L.map MD.Jv)) (h : L[i]? = some md) (hne : md ≠ .dead) (hx : vx = .slice pt nv capv) (hcap : nv ≤ capv) (hpt : pt = none → capv = 0) (hb : 0 < capv → ∃ b, md.base = some b ∧ pt = some ⟨b, off, none⟩) (hle : off + nv * z ≤ md.cells.length) (hz : 0 < z) :
  ∃ w' md', (Builtin.copy_ #[t, t2] ty #[vx, vy]).run P w = .ok (goInt (Nat.min ly nv)) w' ∧ St A w' F ((L.map MD.Jv).set i md'.Jv) ∧ Abd off (ys.take (nv * z)) md md' := by
 subst hx
 have hmin : Nat.min ly nv ≤ ly := Nat.min_le_left _ _
 have hfirst := hsrc.first _ hmin
 have htake : ys.take (Nat.min ly nv * z) = ys.take (nv * z) := by
  rcases Nat.le_total ly nv with h' | h'
  ·rw [show Nat.min ly nv = ly from Nat.min_eq_left h', ← hys, List.take_length, List.take_of_length_le (by rw [hys]; exact Nat.mul_le_mul_right z h')]
  ·rw [show Nat.min ly nv = nv from Nat.min_eq_right h']
 rw [htake] at hfirst
 have hmul : Nat.min ly nv * z ≤ nv * z := Nat.mul_le_mul_right z (Nat.min_le_right _ _)
 have hlen : (ys.take (nv * z)).length = Nat.min ly nv * z := by
  rw [← htake, List.length_take, hys]
  have := Nat.mul_le_mul_right z hmin
  omega
 have hnone : (ys.take (nv * z)) = [] → ∃ w' md', (Builtin.copy_ #[t, t2] ty #[.slice pt nv capv, vy]).run P w = .ok (goInt (Nat.min ly nv)) w' ∧ St A w' F ((L.map MD.Jv).set i md'.Jv) ∧ Abd off (ys.take (nv * z)) md md' := by
  intro he
  refine ⟨w, md, ?_, ?_, ?_⟩
  ·rw [he] at hfirst
   cases pt <;> simp [Builtin.copy_, run_underlying ht, hsrc.len, Bj hsz, hfirst, storeCells]
  ·rw [List.getElem?_eq_some_iff] at h
   obtain ⟨hlt, h⟩ := h
   have : (L.map MD.Jv).set i md.Jv = L.map MD.Jv := by
    rw [← List.map_set, ← h, List.set_getElem_self]
   rw [this]; exact hr
  ·rw [he]
   cases md with
   | dead => exact absurd rfl hne
   | box b c T => simp only [Abd, Ax3]
   | own z' E' v c => simp only [Abd, Ax3]
 by_cases he : (ys.take (nv * z)) = []
 ·exact hnone he
 ·have hpos : 0 < (ys.take (nv * z)).length := List.length_pos_iff.2 he
  have hm0 : 0 < Nat.min ly nv := by
   rcases Nat.eq_zero_or_pos (Nat.min ly nv) with h' | h'
   ·rw [hlen, h'] at hpos; simp at hpos
   ·exact h'
  have hnv : 0 < nv := Nat.lt_of_lt_of_le hm0 (Nat.min_le_right _ _)
  obtain ⟨b, e1, e2⟩ := hb (by omega)
  subst e2
  obtain ⟨w', md', g1, g2, g3⟩ := Blz (P := P) (off := off) hr h e1 (ns := ys.take (nv * z)) (List.all_eq_true.2 fun v hv => List.all_eq_true.1 h1 v (List.mem_of_mem_take hv)) (by rw [hlen]; omega) hpos
  refine ⟨w', md', ?_, g2, g3⟩
  simp [Builtin.copy_, run_underlying ht, hsrc.len, Bj hsz, hfirst, g1]
theorem Bjo (nv k : Nat) : Ako (nv : Int) k = ((Nat.min k nv : Nat) : Int) := by
 unfold Ako
 rcases Nat.lt_or_ge k nv with h | h
 ·rw [if_pos (by omega), show Nat.min k nv = k from Nat.min_eq_left (by omega)]
 ·rw [if_neg (by omega), show Nat.min k nv = nv from Nat.min_eq_right h]
theorem Azf {B : Reg} {e : ET} {l m : List e.T} {cs ys : List Value} {lo nv : Nat} (hl : Bt (Ax B w e) l cs) (hm : Bt (Ax B w e) m ys) : Bt (Ax B w e) (Wl l lo nv m) (Bb cs (lo * e.size) (ys.take (nv * e.size))) := by
 have h1 := Bt.take (fun x c h => Ax.len h) nv hm
 have h2 := h1.len fun x c h => Ax.len h
 have h3 := Bt.take (fun x c h => Ax.len h) lo hl
 have h4 := Bt.drop (fun x c h => Ax.len h) (lo + (m.take nv).length) hl
 unfold Wl Bb
 simp only [Int.toNat_natCast]
 refine Bt.append h3 (Bt.append h1 ?_)
 rw [h2, ← Nat.add_mul]
 exact h4
theorem Bsk {α : Type} (l m : List α) : Azd l m = Wl l ((0 : Nat) : Int) ((l.length : Nat) : Int) m := by
 unfold Azd Wl
 simp only [Int.toNat_natCast, List.take_zero, List.nil_append, Nat.zero_add, List.length_take]
 congr 1
 rcases Nat.le_total m.length l.length with h | h
 ·rw [Nat.min_eq_right h]
 ·rw [Nat.min_eq_left h, List.drop_of_length_le (Nat.le_refl _), List.drop_of_length_le h]
theorem Biv {t t2 E E' : TypeId} {x y : Operand} {e : ET} {l m : List e.T} {ys cs : List Value} {u : Value} {lo nv capv i : Nat} {pt : Option Addr} {ow : Option Nat} (hr : Rel Z s σs A L σ w) (hd : Ki n ⟨ow, .call ⟨.builtin .copy, #[x, y], #[t, t2]⟩, ty, pos, after, none⟩ = true)
  (ht : P.underlying t = some (.slice E)) (hsz : SizeIs P E e.size) (hz : 0 < e.size) (hit : Cc s.it i = .arr E' e l) (hL : L[i]? = some (.own e.size E' u cs)) (hl : Bt (Ax (fun b => A b ∧ Z.R b) w e) l cs) (hm : Bt (Ax (fun b => A b ∧ Z.R b) w e) m ys) (hsrc : SrcW P w (ev σ y) e.size m.length ys)
  (hx : ev σ x = .slice pt nv capv) (hcap : nv ≤ capv) (hpt : pt = none → capv = 0) (hb : 0 < capv → ∃ b, (MD.own e.size E' u cs).base = some b ∧ pt = some ⟨b, lo * e.size, none⟩) (hle : lo + nv ≤ l.length)
  (hk : k ((s.upd i (.arr E' e (Wl l lo nv m))).Gy ow (.i .i64 (Ako (nv : Int) m.length))) = some r) : Adv P n ops ⟨ow, .call ⟨.builtin .copy, #[x, y], #[t, t2]⟩, ty, pos, after, none⟩ Z s σs k r False A L σ w := by
 have hcl := hl.len fun x c h => Ax.len h
 have hyl := hm.len fun x c h => Ax.len h
 have hF := St.Avr (f := Bcl Z.R L (.arr E' e (Wl l lo nv m)) (Bb cs (lo * e.size) (ys.take (nv * e.size)))) hr (Azf hl hm)
 obtain ⟨w', md', g1, g2, g3⟩ := Bg8 (P := P) (ty := ty) (t2 := t2) (off := lo * e.size) ht hsz hsrc hyl hm.Bgg hF hL (by intro h; cases h) rfl hcap hpt hb (by
  show lo * e.size + nv * e.size ≤ cs.length
  rw [hcl, ← Nat.add_mul]; exact Nat.mul_le_mul_right _ hle) hz
 simp only [Abd] at g3
 subst g3
 have key := LeL.own (cs' := Bb cs (lo * e.size) (ys.take (nv * e.size))) hL
 have hr2 := Rel.change (a := .arr E' e (Wl l lo nv m)) g2.Axj hL key ⟨rfl, rfl, g2.fact 0 rfl⟩
 refine WL.Bla (v := goInt (Nat.min m.length nv)) rfl hd ?_ (WL.nil ⟨_, A, _, hk, hr2.Gy rfl ?_, fun h => h.elim⟩)
 ·simp [execOp, resolve, invoke, builtin, hx, g1]
 ·rw [Bjo]; rfl
theorem Bnv {t t2 : TypeId} {x y : Operand} {ow : Option Nat} (hr : Rel Z s σs A L σ w) (hd : Ki n ⟨ow, .call ⟨.builtin .copy, #[x, y], #[t, t2]⟩, ty, pos, after, none⟩ = true)
  (h : Bf5 P s ow x y t t2 k = some r) : Adv P n ops ⟨ow, .call ⟨.builtin .copy, #[x, y], #[t, t2]⟩, ty, pos, after, none⟩ Z s σs k r False A L σ w := by
 have hmm := hr.mem
 unfold Bf5 at h
 split at h
 ·cases h
 ·rename_i E hE
  have ht := Asq hE
  split at h
  ·cases h
  ·rename_i inf hinf
   split at h
   ·rename_i i hx
    split at h
    ·rename_i E' e l hit
     obtain ⟨hb, h⟩ := Az h
     simp only [Bool.and_eq_true] at hb
     have hz : 0 < e.size := by have := Nat.le_of_ble_eq_true hb.2; omega
     split at h
     ·rename_i m hsrc
      obtain ⟨ys, h1, h2⟩ := Bgf hr hz hsrc
      obtain ⟨u, cs, h3, h4⟩ := hmm.arr hit
      obtain ⟨z', E2, c', h5⟩ := Ahm (Cr hmm.sl hx rfl)
      rw [h3] at h5
      cases h5
      obtain ⟨q, len, cap, g1, g2, g3, g4, g5⟩ := hr.Byj h3
      have hl : len = l.length := Nat.eq_of_mul_eq_mul_right hz (g2.symm.trans (h4.len fun x c h => Ax.len h))
      rw [Bsk] at h
      exact Biv (lo := 0) (nv := l.length) (ys := ys) hr hd ht (Em hinf hb.1) hz hit h3 h4 h1 h2 (by rw [g1, hl]) (by omega) g4 (fun hc => by obtain ⟨b, e1, e2⟩ := g5 hc; exact ⟨b, e2, by rw [e1]; simp⟩) (by omega) h
     ·cases h
    ·cases h
   ·rename_i i p e1 lo n' hx
    split at h
    ·rename_i E' e l hit
     obtain ⟨hb, h⟩ := Az h
     simp only [Bool.and_eq_true, decide_eq_true_eq] at hb
     obtain ⟨⟨hb1, hb2⟩, rfl⟩ := hb
     have hz : 0 < e1.size := by have := Nat.le_of_ble_eq_true hb2; omega
     split at h
     ·rename_i m hsrc
      obtain ⟨ys, h1, h2⟩ := Bgf hr hz hsrc
      obtain ⟨u, cs, h3, h4⟩ := hmm.arr hit
      obtain ⟨md, v1, h5, h6, k1, k2, ⟨pt, cap, k3, k4, k5, k6⟩, k7, _⟩ := Cr hmm.sl hx rfl
      rw [h3] at h5; cases h5
      have h7 : ev σ x = v1 := by simpa using h6
      obtain ⟨lo', rfl⟩ := Int.eq_ofNat_of_zero_le k1
      obtain ⟨n1, rfl⟩ := Int.eq_ofNat_of_zero_le k2
      simp only [Int.toNat_natCast] at k3 k4 k6 k7
      obtain ⟨s', E2, q, len, cap0, c0, e1', rfl, e3, _⟩ := k7 trivial
      cases e1'
      obtain ⟨q', len', cap', g1, g2, _⟩ := hr.Byj h3
      cases g1
      have hl : len = l.length := Nat.eq_of_mul_eq_mul_right hz (g2.symm.trans (h4.len fun x c h => Ax.len h))
      exact Biv (lo := lo') (nv := n1) (ys := ys) hr hd ht (Em hinf hb1) hz hit h3 h4 h1 h2 (h7.trans k3) k4 k5 (fun hc => by obtain ⟨b, e4, e5⟩ := k6 hc; exact ⟨b, e4, by rw [e5]; simp [Ar]⟩) (by omega) h
     ·cases h
    ·cases h
   ·rename_i i p e1 lo n' hx
    split at h
    ·rename_i T v hit
     split at h
     ·rename_i a0 x0 hg
      split at h
      ·rename_i q e l
       obtain ⟨hb, h⟩ := Az h
       simp only [Bool.and_eq_true, decide_eq_true_eq] at hb
       obtain ⟨⟨⟨hb1, hb2⟩, rfl⟩, k1, k2, k3⟩ := hb
       have hz : 0 < e1.size := by have := Nat.le_of_ble_eq_true hb2; omega
       split at h
       ·rename_i m hsrc
        obtain ⟨ys, h1, h2⟩ := Bgf hr hz hsrc
        obtain ⟨md, v1, h5, h6, _, _, ⟨pt, cap, g3, g4, g5, g6⟩, _⟩ := Cr hmm.sl hx rfl
        have h7 : ev σ x = v1 := by simpa using h6
        obtain ⟨b, cells, h8, h9⟩ := hmm.box hit
        rw [h8] at h5; cases h5
        obtain ⟨c1, c2, c3, he, h10, h11, h12⟩ := Aoq hg h9
        have hlen2 := h12.len fun x c h => Ax.len h
        have hyl := h1.len fun x c h => Ax.len h
        obtain ⟨lo', rfl⟩ := Int.eq_ofNat_of_zero_le k1
        obtain ⟨n1, rfl⟩ := Int.eq_ofNat_of_zero_le k2
        simp only [Int.toNat_natCast] at g3 g4 g6
        have hq : lo' + n1 ≤ l.length := by rw [h11]; omega
        have e5 : lo' * e1.size + n1 * e1.size ≤ l.length * e1.size := by rw [← Nat.add_mul]; exact Nat.mul_le_mul_right _ hq
        have hk1 := Bt.take (fun x c h => Ax.len h) n1 h1
        have hk2 := hk1.len fun x c h => Ax.len h
        have hk3 : (ys.take (n1 * e1.size)).length ≤ n1 * e1.size := by rw [List.length_take]; omega
        have hcp := Azf (lo := lo') (nv := n1) h12 h1
        have hspl : (Bb c2 (lo' * e1.size) (ys.take (n1 * e1.size))).length = c2.length := Fe (by rw [hlen2]; omega)
        have hvec : EncC (fun b => A b ∧ Z.R b) w L (.val (.vec q e1) (Wl l lo' n1 m)) (Bb c2 (lo' * e1.size) (ys.take (n1 * e1.size))) := by
         refine ⟨?_, hcp⟩
         have := hcp.len fun x c h => Ax.len h
         rw [hspl, hlen2] at this
         rw [← h11]; exact (Nat.eq_of_mul_eq_mul_right hz this).symm
        obtain ⟨v', hk, _, hv'⟩ := Ava hvec h h9
        have hcells : Bb cells (Ar p) (Bb c2 (lo' * e1.size) (ys.take (n1 * e1.size))) = Bb cells (Ar p + lo' * e1.size) (ys.take (n1 * e1.size)) := by
         rw [he, Anm h10 _ (by rw [hlen2]; omega), ← h10, Aou hspl]
        rw [hcells] at hv'
        have hF := St.Avr (f := Bcl Z.R L (.box T v') (Bb cells (Ar p + lo' * e1.size) (ys.take (n1 * e1.size)))) hr hv'
        obtain ⟨w', md', g1, g2, g3'⟩ := Bg8 (P := P) (ty := ty) (t2 := t2) (off := Ar p + lo' * e1.size) ht (Em hinf hb1) h2 hyl h1.Bgg hF h8 (by intro h; cases h) rfl g4 g5 (fun hc => by obtain ⟨b, e4, e5⟩ := g6 hc; exact ⟨b, e4, e5⟩) (by
         show Ar p + lo' * e1.size + n1 * e1.size ≤ cells.length
         rw [he]; simp only [List.length_append, h10, hlen2]; omega) hz
        simp only [Abd] at g3'
        subst g3'
        have key := LeL.box (cs' := Bb cells (Ar p + lo' * e1.size) (ys.take (n1 * e1.size))) h8
        have hr2 := Rel.change (a := .box T v') g2.Axj h8 key ⟨rfl, EncC.step (fun _ h => h) (fun _ _ => rfl) key (g2.fact 0 rfl)⟩
        refine WL.Bla (v := goInt (Nat.min m.length n1)) rfl hd ?_ (WL.nil ⟨_, A, _, hk, hr2.Gy rfl ?_, fun h => h.elim⟩)
        ·rw [← g3, ← h7] at g1
         simp [execOp, resolve, invoke, builtin, g1]
        ·rw [Bjo]; rfl
       ·cases h
      ·cases h
     ·cases h
    ·cases h
   ·cases h
theorem Azb {g : Nat} {cs : List Value} : ∀ {l : List (Nat × List Value)}, Bvu l g = some cs → (g, cs) ∈ l
 | [], h => by cases h
 | (q, c) :: r, h => by
  simp only [Bvu] at h
  cases hb : Nat.beq q g with
  | true =>
   rw [hb] at h
   have := Cf hb
   subst this
   cases h
   exact .head _
  | false => rw [hb] at h; exact .tail _ (Azb h)
theorem Bll {g : Nat} {t : TypeId} {v : PV} (hT : Avp P T Z) (hr : Rel Z s σs A L σ w) (h : T.glv P g t = some v) : ∃ cs T1 fr, w.heap[g]? = some (.cells cs.toArray T1 fr) ∧ (A g ∧ Z.R g) ∧ EncC (fun b => A b ∧ Z.R b) w L v cs := by
 unfold Tab.glv at h
 split at h
 ·rename_i cs hg
  split at h
  ·rename_i v' hp
   cases h
   obtain ⟨h1, T1, fr, h2⟩ := hr.Bra (p := (g, cs)) (by rw [hT.2]; exact Azb hg)
   obtain ⟨c, e1, h3⟩ := An9 (B := fun b => A b ∧ Z.R b) (w := w) (L := L) Q hp
   rw [List.append_nil] at e1
   subst e1
   exact ⟨_, T1, fr, h2, h1, h3⟩
  ·cases h
 ·cases h
theorem Bgk {o : Op} {g dn : Nat} {G : Prop} (hT : Avp P T Z) (hr : Rel Z s σs A L σ w) (hd : Ki n ⟨some dn, o, ty, pos, after, none⟩ = true)
  (ho : (∃ t, o = .load t (.global g)) ∨ (∃ t ix, o = .indexAddr t (.global g) ix) ∨ (∃ t lo hi, o = .slice t (.global g) lo hi none)) (h : At9 P T s dn g o k = some r) :
  Adv P n ops ⟨some dn, o, ty, pos, after, none⟩ Z s σs k r G A L σ w := by
 have hm := hr.mem
 rcases ho with ⟨t, rfl⟩ | ⟨t, ix, rfl⟩ | ⟨t, lo, hi, rfl⟩
 ·simp only [At9] at h
  split at h
  ·rename_i v hv
   obtain ⟨hb, hk⟩ := Az h
   obtain ⟨cs, T1, fr, h1, h2, h3⟩ := Bll hT hr hv
   obtain ⟨val, h7, h8⟩ := Bbq (P := P) (σ := σ) (x := .global g) (b := g) (off := 0) (Rz hb) h3 (fun j hj => by rw [cell_of h1]; simp) rfl
   obtain ⟨hv, hv'⟩ := Kk h7
   exact Dk hr hd h8 hv hv' hk
  ·cases h
 ·simp only [At9] at h
  split at h
  ·rename_i j m et e0 l0 hj ht hv
   obtain ⟨q, hix⟩ := Aht hj (Vs hm.sl ix (Ame hj))
   split at h
   ·rename_i inf m' e l hinf
    obtain ⟨hb, h⟩ := Az h
    simp only [Bool.and_eq_true] at hb
    obtain ⟨y, hy, hk⟩ := bind_some h
    obtain ⟨hj0, hj1, hj2⟩ := Jk hy
    obtain ⟨cs, T1, fr, h1, h2, h3, h4⟩ := Bll hT hr hv
    obtain ⟨c1, c2, c3, he, h8, h9, _⟩ := Bt.get (fun x c h => Ax.len h) h4 hj2
    have hmm := Cf hb.1.1
    subst hmm
    have h10 : c2.length = e.size := h9.len
    have hp : Be4 (fun b => A b ∧ Z.R b) w (.pointer (some ⟨g, 0 + j.toNat * e.size, none⟩)) c2 := by
     refine ⟨g, 0 + j.toNat * e.size, _, T1, fr, rfl, h2, h1, fun q hq => ?_⟩
     rw [List.getElem?_toArray, he, Nat.zero_add, List.getElem?_append_right (by omega), h8, show j.toNat * e.size + q - j.toNat * e.size = q by omega, List.getElem?_append_left hq]
    have hvr : Eg (fun b => A b ∧ Z.R b) w L (.rptr (e.pv y)) (.pointer (some ⟨g, 0 + j.toNat * e.size, none⟩)) := ⟨_, c2, rfl, hp, Anc.2 h9⟩
    exact Dk hr hd (Am5 (x := .global g) ht (Em hinf hb.1.2) rfl hix (by omega) (by rw [← show l.length = m' from h3]; omega) w) rfl hvr hk
   ·cases h
  ·cases h
 ·simp only [At9] at h
  split at h
  ·rename_i u m et hat
   split at h
   ·rename_i e0 l0 hv
    split at h
    ·rename_i inf m' e l hinf
     obtain ⟨hb, h⟩ := Az h
     simp only [Bool.and_eq_true] at hb
     split at h
     ·rename_i a b ha hb'
      obtain ⟨y, hy, hk⟩ := bind_some h
      obtain ⟨k1, k2, k3, k4, rfl⟩ := Ajz hy
      obtain ⟨cs, T1, fr, h1, h2, h3, h4⟩ := Bll hT hr hv
      have hmm := Cf hb.1.1
      subst hmm
      have hlen := h4.len fun x c h => Ax.len h
      have hz : 0 < e.size := by have := Nat.le_of_ble_eq_true hb.2; omega
      have hm3 : l.length = m' := h3
      have hxo := X.Bex (P := P) (σ := σ) (w := w) (x := .global g) (lo := lo) (hi := hi) (a := a.toNat) (b := b.toNat) (ad := ⟨g, 0, none⟩) hat (Em hinf hb.1.2) k3 (by omega) rfl
       (by rcases Lt hm.sl ha with h | ⟨h, h'⟩; exact .inl (by rw [← k1]; exact h); exact .inr ⟨h, by omega⟩) (by rcases Lt hm.sl hb' with h | ⟨h, h'⟩; exact .inl (by rw [← k2]; exact h); exact .inr ⟨h, by omega⟩)
      have e5 : a.toNat * e.size ≤ b.toNat * e.size := Nat.mul_le_mul_right _ k3
      have e6 : b.toNat * e.size ≤ l.length * e.size := Nat.mul_le_mul_right _ k4
      have e7 : (b.toNat - a.toNat) * e.size = b.toNat * e.size - a.toNat * e.size := Nat.sub_mul _ _ _
      refine Dk hr hd hxo rfl (Asw ⟨_, _, _, rfl, ?_, by omega, (fun h => by cases h), fun hc => ?_⟩ (Bt.drop (fun x c h => Ax.len h) _ (Bt.take (fun x c h => Ax.len h) _ h4))) hk
      ·rw [List.length_drop, List.length_take, hlen, e7]; omega
      ·rw [if_neg (by omega), Nl]
       refine ⟨g, 0 + a.toNat * e.size, _, T1, fr, rfl, h2, h1, ?_, fun i hi => ?_⟩
       ·simp only [List.size_toArray, hlen, hm3]
        have : (m' - a.toNat) * e.size = m' * e.size - a.toNat * e.size := Nat.sub_mul _ _ _
        have : a.toNat * e.size ≤ m' * e.size := Nat.mul_le_mul_right _ (by omega)
        omega
       ·rw [List.getElem?_toArray, Nat.zero_add, List.getElem?_drop, List.getElem?_take, if_pos (by omega)]
     ·cases h
    ·cases h
   ·cases h
  ·cases h
theorem Bxt {o : Op} {dn : Nat} (hT : Avp P T Z) (hI : Aq5 P T.gl inl) (hr : Rel Z s σs A L σ w) (hd : Ki n ⟨some dn, o, ty, pos, after, none⟩ = true) (h : op2 P T inl s dn ty o k = some r) :
  Adv P n ops ⟨some dn, o, ty, pos, after, none⟩ Z s σs k r (nbk T s ⟨some dn, o, ty, pos, after, none⟩ = true) A L σ w := by
 have hm := hr.mem
 unfold op2 at h
 split at h
 ·
  rename_i o t x y t'
  split at h
  ·rename_i a u b v hx hy
   split at h
   ·rename_i c q hc hq
    obtain ⟨_, hok, h⟩ := bind_some h
    have := Aa5 hok
    subst this
    obtain ⟨hv, val, hb, hvr⟩ := Ayx (P := P) (w := w) (L := L) (B := fun b => A b ∧ Z.R b) (t := t) hq hc
    exact Dk hr hd (X.bin (Abo hm.sl hx) (Abo hm.sl hy) hb) hv hvr h
   ·cases h
  ·rename_i u v hx hy
   split at h
   ·obtain ⟨q, hq, h⟩ := bind_some h
    exact Dk (p := .val .str q) hr hd (X.Bti (Xo hm.sl hx) (Xo hm.sl hy) hq) rfl rfl h
   ·cases h
  ·rename_i a h1 h2 hy
   exact Btr hr hd rfl hy h
  ·cases h
 ·
  rename_i t x ix
  split at h
  ·rename_i j e0 l0 hj hx
   obtain ⟨q, hix⟩ := Aht hj (Vs hm.sl ix (Ame hj))
   split at h
   ·rename_i l ht
    obtain ⟨y, hy, h⟩ := bind_some h
    exact Dk (p := .i .u8 y) hr hd (X.Bss ht (Xo hm.sl hx) hix hy) rfl rfl h
   ·rename_i m e l m' et ht
    obtain ⟨hb, h⟩ := Az h
    obtain ⟨y, hy, h⟩ := bind_some h
    obtain ⟨hk, hkk⟩ := Az h
    have hok := Rz hk
    have hv : Iw (fun b => A b ∧ Z.R b) w L (.val (.vec m e) l) (ev σ x) := Cr hm.sl hx rfl
    obtain ⟨cs, h1, h2, h3⟩ := hv
    have hsz : (e.pv y).size = e.size := by
     obtain ⟨_, _, h5⟩ := Jk hy
     obtain ⟨_, c2, _, _, _, h6, _⟩ := Bt.get (fun x c h => Ax.len h) h3 h5
     rw [← (Anc (L := L).2 h6).len, h6.len]
    have hmm := Cf hb
    subst hmm
    obtain ⟨d0, hd0, ha0⟩ := hok.agg
    obtain ⟨val, h4, h5⟩ := Buh (L := L) ht (by rw [← hsz]; exact hok.size) ⟨d0, hd0, ha0⟩ (fun hA => by rw [← hsz]; exact hok.one hA) h2 h1 h3 hix hy
    obtain ⟨hv, hv'⟩ := Kk h5
    exact Dk hr hd h4 hv hv' hkk
   ·cases h
  ·cases h
 ·split at h
  ·exact Bgk hT hr hd (.inr (.inr ⟨_, _, _, rfl⟩)) h
  ·exact Bqc hr hd h (fun g => g)
 ·split at h
  ·exact Bgk hT hr hd (.inr (.inl ⟨_, _, rfl⟩)) h
  ·exact Bk2 hr hd h
 ·split at h
  ·exact Bgk hT hr hd (.inl ⟨_, rfl⟩) h
  ·exact Bu3 hr hd h
 ·
  split at h
  ·rename_i v hz; exact Bqp hr hd hz h
  ·cases h
 ·obtain ⟨hb, h⟩ := Az h
  exact Bya hr hd hb h
 ·split at h
  ·rename_i v hv
   obtain ⟨hA, h⟩ := Az h
   obtain ⟨h1, h2⟩ := Bdq (B := fun b => A b ∧ Z.R b) (w := w) (L := L) hv hA
   exact Dk hr hd (X.assign rfl) h1 h2 h
  ·cases h
 ·split at h
  ·rename_i v hv
   obtain ⟨hA, h⟩ := Az h
   obtain ⟨h1, h2⟩ := Bdq (B := fun b => A b ∧ Z.R b) (w := w) (L := L) hv hA
   exact Dk hr hd (X.move rfl) h1 h2 h
  ·cases h
 ·exact Bsf hr hd h
 ·exact Bc1 hr hd h (fun g => g)
 ·exact Bt9 hr hd h
 ·
  split at h
  ·rename_i e ha ht
   split at h
   ·rename_i l he hx
    exact Blr hr hd ha ht he hx h
   ·cases h
  ·rename_i e ha ht
   obtain ⟨hb, h1⟩ := Az h
   clear h
   have := Cf hb
   subst this
   split at h1
   ·rename_i i he hx
    split at h1
    ·rename_i E e' l hi
     split at h1
     ·rename_i y ys
      exact Bt8 hr hd ht he hx hi h1
     ·cases h1
    ·cases h1
   ·cases h1
  ·cases h
 ·
  rename_i as ts
  split at h
  ·rename_i x y t t2 has hts
   have h1 := Af0 has
   have h2 := Af0 hts
   subst h1 h2
   refine Al3 (Bp2 hr hd h) ?_
   rintro σ' w' ⟨s', A', L', g1, g2, g3⟩
   exact ⟨s', A', L', g1, g2, fun g => by simp [nbk, brk] at g⟩
  ·cases h
 ·
  rename_i as ts
  split at h
  ·rename_i x y t t2 has hts
   have h1 := Af0 has
   have h2 := Af0 hts
   subst h1 h2
   refine Al3 (Bnv hr hd h) ?_
   rintro σ' w' ⟨s', A', L', g1, g2, g3⟩
   exact ⟨s', A', L', g1, g2, fun g => by simp [nbk, brk] at g⟩
  ·cases h
 ·
  rename_i as ts
  split at h
  ·rename_i x t has hts
   have h1 := Af0 has
   have h2 := Af0 hts
   subst h1 h2
   split at h
   ·rename_i e ht hx
    refine Dk (p := .i .i64 (0 : Int)) hr hd (val := iv (0 : Int)) (fun _ _ _ _ _ => ?_) rfl rfl h
    have hv := Agf (Cr hm.sl hx rfl)
    simp [execOp, resolve, invoke, builtin, hv, Builtin.cap_, run_underlying ht, goInt]
    rfl
   ·cases h
  ·cases h
 ·
  rename_i g as ts
  split at h
  ·rename_i f caps hg
   refine Bvi hT hI hr hg hd h (fun gg => ?_)
   unfold nbk at gg
   split at gg
   ·rename_i heq; cases heq
   ·rename_i heq; cases heq
   ·rename_i f' as' ts' heq
    cases heq
    cases hg
    split at gg
    ·rename_i c hc
     simp only [Bool.and_eq_true, Bool.or_eq_true, Bool.not_eq_true'] at gg
     exact ⟨c, hc, gg.1, gg.2.imp id isEmpty_nil⟩
    ·cases gg
   ·rename_i h1 h2 h3
    simp only [brk] at gg
    split at gg <;> simp_all
  ·cases h
 ·exact Bn6 hr hd h (fun g => g)
 ·cases h
end Go.Rx
set_option linter.unusedVariables false
set_option linter.unusedSimpArgs false
namespace Go.Rx
open Go Go.Lv
variable {P : Program} {w w' : World} {L : List MD} {s : S} {σs : List Env} {σ : Env} {Z : Fix} {A : Reg}
theorem Anu {α : Type 1} {c : Bool} {x : Option α} {y : α} (h : (Ch (c ) (x ) <| none) = some y) : c = true ∧ x = some y := by cases c <;> simp_all
theorem Bkm {o : Op} {b : BV} {x : b.X} (hr : Rel Z s σs A L σ w) (h : bnd P s o = some b) (hx : b.E = some x) : (b.v x).isV = true ∧ ∃ val, (∀ w', XO P σ w' o val) ∧ Eg (fun b => A b ∧ Z.R b) w L (b.v x) val := by
 have hm := hr.mem
 unfold bnd at h
 split at h
 ·
  rename_i o t x y t'
  split at h
  ·rename_i a u b v hx' hy
   split at h
   ·rename_i c q hc hq
    cases h
    have := Aa5 hx
    subst this
    obtain ⟨hv, val, hb, hvr⟩ := Ayx (P := P) (w := w) (L := L) (B := fun b => A b ∧ Z.R b) (t := t) hq hc
    exact ⟨hv, val, fun w' => X.bin (Abo hm.sl hx') (Abo hm.sl hy) hb, hvr⟩
   ·cases h
  ·rename_i u v hx' hy
   split at h
   ·cases h
    exact ⟨rfl, _, fun w' => X.Bti (Xo hm.sl hx') (Xo hm.sl hy) hx, rfl⟩
   ·cases h
  ·cases h
 ·
  split at h
  ·rename_i j l hj hx' ht
   cases h
   obtain ⟨q, hix⟩ := Aht hj (Vs hm.sl _ (Ame hj))
   exact ⟨rfl, _, fun w' => X.Bss ht (Xo hm.sl hx') hix hx, rfl⟩
  ·cases h
 ·
  split at h
  ·rename_i ht
   split at h
   ·rename_i l hx'
    split at h
    ·rename_i a b ha hb
     cases h
     exact ⟨rfl, _, fun w' => X.Bzu ht (Xo hm.sl hx') hx (Lt hm.sl ha) (Lt hm.sl hb), rfl⟩
    ·cases h
   ·cases h
  ·rename_i et ht
   split at h
   ·rename_i e0 l0 hx'
    split at h
    ·rename_i e l
     split at h
     ·rename_i inf hinf
      obtain ⟨hb, h⟩ := Anu h
      simp only [Bool.and_eq_true] at hb
      split at h
      ·rename_i a b ha hb'
       cases h
       obtain ⟨h1, h2, h3, h4, h5'⟩ := Ajz hx
       obtain ⟨c0, h5, h6⟩ := Acf (Cr hm.sl hx' rfl)
       have hlen := h6.len fun x c h => Ax.len h
       obtain ⟨p', l', c', h7, h8⟩ := X.Bih (P := P) (l := a.toNat) (k := b.toNat) (m := l.length) ht (Em hinf hb.1) (St.Bst hr h5) (j := 0) rfl hlen (Bfq hb.2) h3 h4
       refine ⟨rfl, .slice p' l' c', fun w' => h7 σ w' _ _ _ rfl (by rcases Lt hm.sl ha with h | ⟨h, h'⟩; exact .inl (by rw [← h1]; exact h); exact .inr ⟨h, by omega⟩)
        (by rcases Lt hm.sl hb' with h | ⟨h, h'⟩; exact .inl (by rw [← h2]; exact h); exact .inr ⟨h, by rw [h']; simp [Ac]⟩), ?_⟩
       rw [h5']
       exact Asw (h8.fact 0 rfl) (Bt.drop (fun x c h => Ax.len h) _ (Bt.take (fun x c h => Ax.len h) _ h6))
      ·cases h
     ·cases h
    ·cases h
   ·cases h
  ·cases h
 ·
  split at h
  ·cases h
  ·rename_i j hj
   obtain ⟨q, hix⟩ := Aht hj (Vs hm.sl _ (Ame hj))
   split at h
   ·rename_i et ht
    split at h
    ·cases h
    ·rename_i inf hinf
     split at h
     ·rename_i e0 l0 hx'
      split at h
      ·rename_i e l
       obtain ⟨hb, h⟩ := Anu h
       cases h
       simp only [Bool.and_eq_true] at hb
       obtain ⟨hj0, hj1, hj2⟩ := Jk hx
       obtain ⟨c0, h1, h2⟩ := Acf (Cr hm.sl hx' rfl)
       obtain ⟨p, len, cap, h3, h4, h5, h6, h7⟩ := h1
       have hlen := h2.len fun x c h => Ax.len h
       have hz : 0 < e.size := by have := Nat.le_of_ble_eq_true hb.2; omega
       have hl : len = l.length := Nat.eq_of_mul_eq_mul_right hz (h4.symm.trans hlen)
       subst hl
       obtain ⟨b, off, arr, T, fr, rfl, hB, hbl, hcap, hc⟩ := h7 (by omega)
       obtain ⟨c1, c2, c3, he, h8, h9, _⟩ := Bt.get (fun x c h => Ax.len h) h2 hj2
       have h10 : c2.length = e.size := h9.len
       have h11 : (j.toNat + 1) * e.size ≤ l.length * e.size := Nat.mul_le_mul_right _ hj1
       rw [Nat.succ_mul] at h11
       have hp : Be4 (fun b => A b ∧ Z.R b) w (.pointer (some ⟨b, off + j.toNat * e.size, none⟩)) c2 := by
        refine ⟨b, off + j.toNat * e.size, arr, T, fr, rfl, hB, hbl, fun q hq => ?_⟩
        rw [Nat.add_assoc, hc _ (by omega), he, List.getElem?_append_right (by omega), h8, show j.toNat * e.size + q - j.toNat * e.size = q by omega, List.getElem?_append_left hq]
       have hvr : Eg (fun b => A b ∧ Z.R b) w L (.rptr (e.pv x)) (.pointer (some ⟨b, off + j.toNat * e.size, none⟩)) := ⟨_, c2, rfl, hp, Anc.2 h9⟩
       exact ⟨rfl, _, fun w' => Vh ht (Em hinf hb.1) h3 hix (by omega) (by omega) w', hvr⟩
      ·cases h
     ·rename_i i hx'
      split at h
      ·rename_i E e l hi
       obtain ⟨hb, h⟩ := Anu h
       cases h
       simp only [Bool.and_eq_true] at hb
       obtain ⟨hj0, hj1, hj2⟩ := Jk hx
       obtain ⟨v, cs, h1, h2⟩ := hm.arr hi
       obtain ⟨z', E', c', h3⟩ := Ahm (Cr hm.sl hx' rfl)
       rw [h1] at h3; cases h3
       have hlen := h2.len fun x c h => Ax.len h
       have hz : 0 < e.size := by have := Nat.le_of_ble_eq_true hb.2; omega
       have hpos : 0 < cs.length := by rw [hlen]; exact Nat.mul_pos (by omega) hz
       obtain ⟨b, len, cap, h4, h5⟩ := hr.base h1 hpos
       have hl : len = l.length := Nat.eq_of_mul_eq_mul_right hz (h5.symm.trans hlen)
       subst hl
       refine ⟨rfl, _, fun w' => Vh ht (Em hinf hb.1) h4 hix (by omega) (by omega) w', ?_⟩
       rw [show (0 : Nat) + j.toNat * e.size = Ar [.idx j e.size] by simp [Ar, As6]]
       refine Ah3 h1 ?_
       rw [h4]; rfl
      ·cases h
     ·rename_i o i p e lo n' hx'
      obtain ⟨hb, h⟩ := Anu h
      cases h
      simp only [Bool.and_eq_true] at hb
      have hj' : 0 ≤ j ∧ j < n' := of_decide_eq_true (Aa5 hx)
      obtain ⟨md, v1, h3, h4, k1, k2, ⟨pt, cap, k3, k4, k5, k6⟩, _⟩ := Cr hm.sl hx' rfl
      have h6 := List.cons.inj h4
      obtain ⟨b, e1, rfl⟩ := k6 (by omega)
      refine ⟨rfl, _, fun w' => Vh ht (Em hinf hb.1) (h6.1.trans k3) hix hj'.1 (by omega) w', ?_⟩
      rw [show Ar p + lo.toNat * e.size + j.toNat * e.size = Ar (p ++ [.idx (lo + j) e.size]) by
       rw [Apk, Nat.add_assoc, ← Nat.add_mul]
       show _ = Ar p + (lo + j).toNat * e.size
       rw [Int.toNat_add k1 hj'.1]]
      exact Ah3 h3 e1
     ·cases h
   ·rename_i m et ht
    split at h
    ·cases h
    ·rename_i inf hinf
     split at h
     ·rename_i i p hx'
      split at h
      ·rename_i T v hi
       split at h
       ·rename_i e0 l0 hg
        split at h
        ·rename_i m' e l
         obtain ⟨hb, h⟩ := Anu h
         cases h
         simp only [Bool.and_eq_true] at hb
         obtain ⟨hj0, hj1, hj2⟩ := Jk hx
         obtain ⟨md, b, h1, h2, h3⟩ := Aa8 (Cr hm.sl hx' rfl)
         obtain ⟨b', cells, h4, h5⟩ := hm.box hi
         rw [h4] at h1; cases h1; cases h2
         obtain ⟨c1, c2, c3, he, h6, h7, h8⟩ := Aoq hg h5
         have hmm := Cf hb.2
         subst hmm
         have hl : l.length = m' := h7
         refine ⟨rfl, _, fun w' => Am5 ht (Em hinf hb.1.1) h3 hix (by omega) (by omega) w', ?_⟩
         rw [show Ar p + j.toNat * e.size = Ar (p ++ [.idx j e.size]) by simp [Ak9, Ar, As6]]
         exact Ah3 h4 rfl
        ·cases h
       ·cases h
      ·cases h
     ·cases h
   ·cases h
 ·cases h
end Go.Rx
set_option linter.unusedVariables false
set_option linter.unusedSimpArgs false
namespace Go.Rx
open Go Go.Lv
variable {P : Program} {B B' : Reg} {w w' : World} {L L' : List MD} {s : S} {σs : List Env} {σ : Env} {Z : Fix} {A A' : Reg} {n : Nat} {ops : Array Oper}
variable {R : Type} {k : S → Option R} {r : R} {d : Option Nat} {ty : TypeId} {pos : String} {after : Array Edge} {T : Tab} {inl : Inl R}
theorem Bq6 {o : Oper} (hT : Avp P T Z) (hI : Aq5 P T.gl inl) (hr : Rel Z s σs A L σ w) (hd : Ki n o = true) (h : exU P T inl o s k = some r) :
  Adv P n ops { o with guard := none } Z s σs k r (nbk T s o = true) A L σ w := by
 obtain ⟨d, op, ty, pos, after, g⟩ := o
 have hd' : Ki n ⟨d, op, ty, pos, after, none⟩ = true := hd
 unfold exU at h
 split at h
 ·rename_i v hv
  obtain ⟨h1, val, h2, h3⟩ := Blo (P := P) (B := fun b => A b ∧ Z.R b) (w := w) (L := L) (fun _ => True) hr.mem.sl hv
  exact Dk hr hd' (h2 w trivial) h1 h3 h
 ·split at h
  ·rename_i v hv
   obtain ⟨h1, val, h2, h3⟩ := Bl7 (P := P) hr hv
   exact Dk hr hd' (h2 w (.refl hr)) h1 h3 h
  ·cases d with
   | some dn => exact Bxt hT hI hr hd' h
   | none =>
    simp only at h
    split at h
    ·rename_i t a x
     refine Al3 (Bsq hr h) ?_
     rintro σ' w' ⟨s', A', L', g1, g2, g3⟩
     exact ⟨s', A', L', g1, g2, fun g => by simp [nbk, brk] at g⟩
    ·rename_i as ts
     split at h
     ·rename_i x y t t2 has hts
      have h1 := Af0 has
      have h2 := Af0 hts
      subst h1 h2
      refine Al3 (Bnv hr hd' h) ?_
      rintro σ' w' ⟨s', A', L', g1, g2, g3⟩
      exact ⟨s', A', L', g1, g2, fun g => by simp [nbk, brk] at g⟩
     ·cases h
    ·cases h
theorem WL.Bzw {rest : List Oper} {K : Env → World → Prop} {o : Oper} {j t : Nat} {want b : Bool} (hg : o.guard = some (j, want)) (hj : (ops[j]?).bind (·.dst) = some t) (hb : σ t = .bool b) (hne : (b == want) = false)
  (hdn : Ki n o = true) (h : WL P n ops rest K (Bom σ o.dst Go.undef) w) : WL P n ops (o :: rest) K σ w := by
 intro ds a ha
 refine wpList_step fun K' hK' => ?_
 have hw : Region.wanted o (yielded ops a.tmps) = false := by
  simp only [Region.wanted, hg, Aky ha hj hb]
  cases b <;> cases want <;> simp_all
 rw [if_neg (by rw [hw]; simp)]
 refine hK' _ _ ?_
 cases hd : o.dst with
 | none => rw [hd] at h; exact h _ _ (ha.Bae _)
 | some d => rw [hd] at h; unfold Ki at hdn; rw [hd] at hdn; exact h _ _ (ha.put hdn _)
theorem WL.Bzv {rest : List Oper} {K : Env → World → Prop} {o : Oper} {j t : Nat} {want : Bool} (hg : o.guard = some (j, want)) (hj : (ops[j]?).bind (·.dst) = some t) (hb : σ t = Go.undef)
  (hdn : Ki n o = true) (h : WL P n ops rest K (Bom σ o.dst Go.undef) w) : WL P n ops (o :: rest) K σ w := by
 intro ds a ha
 refine wpList_step fun K' hK' => ?_
 have hy : yielded ops a.tmps j = none := by
  unfold yielded
  rw [hj]
  have h1 := ha.get t
  rw [hb] at h1
  cases h : a.tmps[t]? with
  | none => simp [h]
  | some v =>
   rw [Array.getD_eq_getD_getElem?, h] at h1
   simp at h1
   subst h1
   simp [h, undef]
 have hw : Region.wanted o (yielded ops a.tmps) = false := by
  simp only [Region.wanted, hg, hy]
  cases want <;> rfl
 rw [if_neg (by rw [hw]; simp)]
 refine hK' _ _ ?_
 cases hd : o.dst with
 | none => rw [hd] at h; exact h _ _ (ha.Bae _)
 | some d => rw [hd] at h; unfold Ki at hdn; rw [hd] at hdn; exact h _ _ (ha.put hdn _)
theorem Bhj {o : Oper} {G : Prop} (hr : Rel Z s σs A L σ w) (h : k (s.Gy o.dst .off) = some r) : WL P n ops [] (Bcy Z σs k r G A L s.it w) (Bom σ o.dst Go.undef) w := by
 refine WL.nil ⟨_, A, L, h, hr.Bwb, fun _ => ?_⟩
 have : (s.Gy o.dst .off).it = s.it := by cases o.dst <;> rfl
 rw [this]; exact .refl
theorem Aop {a b : Bool} : eqB a b = (b == a) := by cases a <;> cases b <;> rfl
theorem Bkr {G G' : Prop} {σ' : Env} {it : List Item} (hp : Bcy Z σs k r G A L it w σ' w') (h : G' → G) : Bcy Z σs k r G' A L it w σ' w' := by
 obtain ⟨s', A', L', h1, h2, h3⟩ := hp
 exact ⟨s', A', L', h1, h2, fun g => h3 (h g)⟩
theorem Ayt {t dn : Nat} {want b : Bool} {v : PV} {val : Value} (ht : σ t = .bool b) (hne : Nat.beq dn t = false) (h1 : b = want → Eg B w L v val) (h2 : b ≠ want → val = Go.undef) : Jt B w L (upd σ dn val) dn (.gd t want v) := by
 have htd : t ≠ dn := by intro e; subst e; simp at hne
 exact ⟨b, by rw [Aus _ _ htd]; exact ht, fun e => by rw [Akk]; exact h1 e, fun e => by rw [Akk]; exact h2 e⟩
theorem Bno {o : Oper} {j t dn : Nat} {want b : Bool} {v : PV} {G : Prop} (hr : Rel Z s σs A L σ w) (hg : o.guard = some (j, want)) (hj : (ops[j]?).bind (·.dst) = some t) (ht : σ t = .bool b) (hdn : Ki n o = true) (hd : o.dst = some dn)
  (hne : Nat.beq dn t = false) (hv : b = want → v.isV = true ∧ ∃ val, XO P σ w o.op val ∧ Eg (fun b => A b ∧ Z.R b) w L v val) (hk : k (s.set dn (.gd t want v)) = some r) : Adv P n ops o Z s σs k r G A L σ w := by
 by_cases hbw : b = want
 ·obtain ⟨h1, val, h2, h3⟩ := hv hbw
  refine WL.on hg hj ht (by simpa using hbw) (WL.Bla rfl (by simpa [Ki] using hdn) (h2 _ _ _ _ _) (WL.nil ⟨_, A, L, hk, ?_, fun _ => .refl⟩))
  simp only [hd]
  exact hr.set (Ayt ht hne (fun _ => h3) (fun e => absurd hbw e))
 ·refine WL.Bzw hg hj ht (by simpa using hbw) hdn (WL.nil ⟨_, A, L, hk, ?_, fun _ => .refl⟩)
  rw [hd]
  exact hr.set (Ayt ht hne (fun e => absurd e hbw) (fun _ => rfl))
theorem Aju {t : Nat} {b : Bool} (hm : SlotsR B w L σ s.sl) (h : Ael s.sl t = .val .bool b) : σ t = .bool b := by
 have h1 := Vk (t := t) hm
 rw [h] at h1
 exact Agd h1
theorem Avi {t : Nat} {b : Bool} (hm : SlotsR B w L σ s.sl) (h : Ael s.sl t = .cst (.bool b)) : σ t = .bool b := by
 have h1 := Vk (t := t) hm
 rw [h] at h1
 have : [σ t] = [Value.bool b] := h1.1
 simpa using this
theorem Bxw {o : Oper} {j t : Nat} {want : Bool} (hT : Avp P T Z) (hI : Aq5 P T.gl inl) (hr : Rel Z s σs A L σ w) (hd : Ki n o = true) (hg : o.guard = some (j, want)) (hj : (ops[j]?).bind (·.dst) = some t)
  (h : exG P T inl o t want s k = some r) : Adv P n ops o Z s σs k r (nbk T s o = true ∧ ∃ b, Ael s.sl t = .cst (.bool b)) A L σ w := by
 have hm := hr.mem
 have lit : ∀ (G : Prop) (s1 : S) (b : Bool), (G → nbk T s1 o = true) → Rel Z s1 σs A L σ w → s1.it = s.it → σ t = .bool b → (Ch (eqB want b ) (exU P T inl o s1 k ) <| k (s1.Gy o.dst .off)) = some r → Adv P n ops o Z s σs k r G A L σ w := by
  intro G s1 b hG hr1 hit ht h
  cases hb : eqB want b with
  | true =>
   rw [hb] at h
   refine WL.on hg hj ht (by rw [← Aop]; exact hb) (Al3 (Bq6 hT hI hr1 hd h) fun σ' w' hp => ?_)
   rw [← hit]
   exact Bkr hp hG
  | false =>
   rw [hb] at h
   refine WL.Bzw hg hj ht (by rw [← Aop]; exact hb) hd ?_
   rw [← hit]
   exact Bhj hr1 h
 unfold exG at h
 simp only at h
 split at h
 ·rename_i b hb
  exact lit _ s b (fun g => g.1) hr rfl (Avi hm.sl hb) h
 ·rename_i hb
  have h1 := Vk (t := t) hm.sl
  rw [hb] at h1
  exact WL.Bzv hg hj h1 hd (Bhj hr h)
 ·rename_i b hb
  have ht := Aju hm.sl hb
  have nog : ∀ {X : Prop}, (∃ b, Ael s.sl t = .cst (.bool b)) → X := fun ⟨_, g⟩ => by rw [hb] at g; cases g
  split at h
  ·rename_i dn v hdn hv
   cases hne : Nat.beq dn t with
   | true => rw [hne] at h; cases h
   | false =>
    rw [hne] at h
    refine Bno hr hg hj ht hd hdn hne (fun hbw => ?_) h
    subst hbw
    obtain ⟨h1, val, h2, h3⟩ := Blo (P := P) (fun _ => True) (hr.res ht).mem.sl hv
    exact ⟨h1, val, h2 w trivial, h3⟩
  ·rename_i dn v hdn hv0 hv
   cases hne : Nat.beq dn t with
   | true => rw [hne] at h; cases h
   | false =>
    rw [hne] at h
    refine Bno hr hg hj ht hd hdn hne (fun hbw => ?_) h
    subst hbw
    obtain ⟨h1, val, h2, h3⟩ := Bl7 (P := P) (hr.res ht) hv
    exact ⟨h1, val, h2 w (.refl (hr.res ht)), h3⟩
  ·cases b with
   | true => exact lit _ (s.res t true) true (fun g => nog g.2) (hr.res ht) rfl ht (by simpa using h)
   | false => exact lit _ (s.res t false) false (fun g => nog g.2) (hr.res ht) rfl ht (by simpa using h)
 ·cases h
theorem Bnh {o : Oper} (hT : Avp P T Z) (hI : Aq5 P T.gl inl) (hr : Rel Z s σs A L σ w) (h : Bba P T inl n ops o s k = some r) : Adv P n ops o Z s σs k r (nbk T s o = true ∧ gOk ops s o = true) A L σ w := by
 have hm := hr.mem
 unfold Bba at h
 cases hd : Ki n o with
 | false => rw [hd] at h; cases h
 | true =>
  rw [hd] at h
  simp only [Bool.not_true, cond_false] at h; try dsimp only [Ch] at h
  split at h
  ·rename_i hg
   have : ({ o with guard := none } : Oper) = o := by cases o; simp only at hg; subst hg; rfl
   rw [← this]
   refine Al3 (Bq6 hT hI hr hd h) fun σ' w' hp => Bkr hp ?_
   rintro ⟨g, _⟩; rw [this] at g; exact g
  ·rename_i j want hg
   split at h
   ·cases h
   ·rename_i t hj
    have fin : ∀ s1 : S, (gOk ops s o = true → s1 = s) → Rel Z s1 σs A L σ w → s1.it = s.it → exG P T inl o t want s1 k = some r → Adv P n ops o Z s σs k r (nbk T s o = true ∧ gOk ops s o = true) A L σ w := by
     intro s1 hs hr1 hit h
     refine Al3 (Bxw hT hI hr1 hd hg hj h) fun σ' w' hp => ?_
     rw [← hit]
     refine Bkr hp (fun g => ?_)
     have := hs g.2
     subst this
     refine ⟨g.1, ?_⟩
     have h2 := g.2
     unfold gOk at h2
     simp only [hg, hj] at h2
     split at h2
     ·exact ⟨_, by assumption⟩
     ·cases h2
    split at h
    ·rename_i t2 w2 v hv
     have nog : ∀ {X : Prop}, gOk ops s o = true → X := fun g => by
      unfold gOk at g
      simp only [hg, hj, hv] at g
      cases g
     split at h
     ·rename_i b hb
      have ht := Aju hm.sl hb
      cases b with
      | true => exact fin _ nog (hr.res ht) rfl (by simpa using h)
      | false => exact fin _ nog (hr.res ht) rfl (by simpa using h)
     ·cases h
    ·exact fin s (fun _ => rfl) hr rfl h
theorem Bgy (hT : Avp P T Z) (hI : Aq5 P T.gl inl) : ∀ {l : List Oper} {s : S} {A : Reg} {L : List MD} {σ : Env} {w : World}, Rel Z s σs A L σ w → Beo P T inl n ops l s k = some r →
  WL P n ops l (fun σ' w' => ∃ s' A' L', k s' = some r ∧ Rel Z s' σs A' L' σ' w') σ w
 | [], s, A, L, σ, w, hr, h => WL.nil ⟨s, A, L, h, hr⟩
 | o :: l, s, A, L, σ, w, hr, h => by
  have h1 := Bnh (ops := ops) hT hI hr h
  refine WL.cut _ [o] h1 ?_
  rintro σ' w' ⟨s', A', L', g1, g2, _⟩
  exact Bgy hT hI g2 g1
end Go.Rx
set_option linter.unusedVariables false
set_option linter.unusedSimpArgs false
namespace Go.Rx
open Go Go.Lv
variable {P : Program} {B B' : Reg} {w w' : World} {L L' : List MD} {s : S} {σs : List Env} {σ : Env} {Z : Fix} {A A' : Reg} {n : Nat} {ops : Array Oper}
variable {R : Type} {k : S → Option R} {r : R} {d : Option Nat} {ty : TypeId} {pos : String} {after : Array Edge} {T : Tab} {inl : Inl R} {mem : Bool} {listed : Array Bool}
def Awp (Z : Fix) (σs : List Env) (A : Reg) (L : List MD) (it : List Item) (w w' : World) : Prop := ∃ s2 σ2 A' L', Rel Z s2 σs A' L' σ2 w' ∧ Grow A L it w A' L' s2.it w'
theorem Awp.refl (hr : Rel Z s σs A L σ w) : Awp Z σs A L s.it w w := ⟨s, σ, A, L, hr, .refl⟩
theorem Awp.ext (hr : Rel Z s σs A L σ w) (h : Awp Z σs A L s.it w w') : Ext Z s σs A L σ w w' := by
 obtain ⟨s2, σ2, A', L', h1, h2⟩ := h
 exact h2.ext hr h1
theorem Avm {z : Array Bool} : ∀ {is : List Nat} {i d : Nat} {v : PV}, Acx P T n mem ops z listed s is = some (i, d, v) → ∃ o, ops[i]? = some o ∧ Ace ops (tw z) listed i = true ∧ Bf6 P T n mem ops o s = some (d, v)
 | [], _, _, _, h => by simp [Acx] at h
 | j :: is, i, d, v, h => by
  simp only [Acx] at h
  split at h
  ·cases h
  ·rename_i o ho
   split at h
   ·rename_i d' v' hp
    cases h
    cases ht : Ace ops (tw z) listed j with
    | true => rw [ht] at hp; exact ⟨o, ho, by first | exact ht | rfl, hp⟩
    | false => rw [ht] at hp; cases hp
   ·exact Avm h
def GS (Z : Fix) (σs : List Env) (w' : World) : Prop := ∃ s2 σ2 A2 L2, Rel Z s2 σs A2 L2 σ2 w'
theorem Ext.gs (h : Ext Z s σs A L σ w w') : GS Z σs w' := by
 obtain ⟨⟨A', L', it', _, hr⟩, _⟩ := h
 exact ⟨_, _, _, _, hr⟩
theorem Bpr {g : Nat} {t : TypeId} {v : PV} (hT : Avp P T Z) (h : T.glv P g t = some v) : ∃ cs, (∀ w', GS Z σs w' → ∃ T1 fr, w'.heap[g]? = some (.cells cs.toArray T1 fr)) ∧ ∀ (B : Reg) (w : World) (L : List MD), EncC B w L v cs := by
 unfold Tab.glv at h
 split at h
 ·rename_i cs hg
  split at h
  ·rename_i v' hp
   cases h
   refine ⟨cs, fun w' hw => ?_, fun B w L => ?_⟩
   ·obtain ⟨s2, σ2, A2, L2, hr⟩ := hw
    obtain ⟨_, T1, fr, h2⟩ := hr.Bra (p := (g, cs)) (by rw [hT.2]; exact Azb hg)
    exact ⟨T1, fr, h2⟩
   ·obtain ⟨c, e1, h3⟩ := An9 (B := B) (w := w) (L := L) Q hp
    rw [List.append_nil] at e1
    subst e1
    exact h3
  ·cases h
 ·cases h
theorem Bve {o : Op} {v : PV} (hT : Avp P T Z) (h : Bxa P T o = some v) : v.isV = true ∧ ∃ val, (∀ w', GS Z σs w' → XO P σ w' o val) ∧ Eg (fun b => A b ∧ Z.R b) w L v val := by
 unfold Bxa at h
 split at h
 ·rename_i t g
  split at h
  ·rename_i u hv
   obtain ⟨hb, hk⟩ := Az h
   cases hk
   obtain ⟨cs, h1, h3⟩ := Bpr (σs := σs) hT hv
   obtain ⟨val, h7, h8⟩ := Arf (P := P) (σ := σ) (x := .global g) (b := g) (off := 0) (Rz hb) (h3 (fun b => A b ∧ Z.R b) w L) rfl
   obtain ⟨hv1, hv2⟩ := Kk h7
   refine ⟨hv1, val, fun w' hw => h8 w' fun j hj => ?_, hv2⟩
   obtain ⟨T1, fr, h4⟩ := h1 w' hw
   rw [cell_of h4]; simp
  ·cases h
 ·cases h
theorem Baq {o : Op} {v : PV} {S : World → Prop} (hT : Avp P T Z) (hr : Rel Z s σs A L σ w) (h : Axq P T mem s o = some v) (hS : mem = true → ∀ w', S w' → Ext Z s σs A L σ w w') (hG : ∀ w', S w' → GS Z σs w') : v.isV = true ∧ ∃ val, (∀ w', S w' → XO P σ w' o val) ∧ Eg (fun b => A b ∧ Z.R b) w L v val := by
 unfold Axq at h
 split at h
 ·rename_i u hu
  cases h
  exact Blo (P := P) S hr.mem.sl hu
 ·split at h
  ·rename_i u hu
   cases h
   cases mem with
   | true =>
    obtain ⟨h1, val, h2, h3⟩ := Bl7 (P := P) hr hu
    exact ⟨h1, val, fun w' hw => h2 w' (hS rfl w' hw), h3⟩
   | false => cases hu
  ·obtain ⟨h1, val, h2, h3⟩ := Bve (σs := σs) (σ := σ) (A := A) (w := w) (L := L) hT h
   exact ⟨h1, val, fun w' hw => h2 w' (hG w' hw), h3⟩
theorem But {t : Nat} {b : Bool} {w' : World} (h : Ext Z s σs A L σ w w') (ht : σ t = .bool b) : Ext Z (s.res t b) σs A L σ w w' := by
 obtain ⟨⟨A', L', it', h1, h2⟩, h3⟩ := h
 exact ⟨⟨A', L', it', h1, Rel.res (s := ⟨s.sl, s.it ++ it', s.st⟩) h2 ht⟩, h3⟩
theorem Bmq {S : World → Prop} {z : Array Bool} {fuel i dn : Nat} {o : Oper} {v : PV} {K : Env → World → Prop} (hT : Avp P T Z) (hr : Rel Z s σs A L σ w) (hi : ops[i]? = some o) (hB : Ace ops (tw z) listed i = true) (hp : Bf6 P T n mem ops o s = some (dn, v)) (hSw : S w)
  (hS : mem = true → ∀ w', S w' → Ext Z s σs A L σ w w') (hG : ∀ w', S w' → GS Z σs w') (h : ∀ σ', Rel Z (s.set dn v) σs A L σ' w → WD P n ops S (tw z) fuel (listed.setIfInBounds i true) K σ' w) : WD P n ops S (tw z) (fuel + 1) listed K σ w := by
 obtain ⟨d, op, ty, pos, after, g⟩ := o
 have hm := hr.mem
 unfold Bf6 at hp
 simp only at hp
 split at hp
 ·cases hp
 ·rename_i d'
  cases hn : Nat.blt d' n with
  | false => rw [hn] at hp; cases hp
  | true =>
   rw [hn] at hp
   simp only [Bool.not_true, cond_false] at hp; try dsimp only [Ch] at hp
   split at hp
   ·
    cases hv : Axq P T mem s op with
    | none => rw [hv] at hp; cases hp
    | some u =>
     rw [hv] at hp; cases hp
     obtain ⟨h1, val, h2, h3⟩ := Baq hT hr hv hS hG
     exact WD.x i hi hB hn hSw h2 (h _ (hr.set (.put h1 h3)))
   ·rename_i j want
    split at hp
    ·cases hp
    ·rename_i t hj
     split at hp
     ·rename_i b hb
      have ht := Avi hm.sl hb
      cases hw : eqB want b with
      | true =>
       rw [hw] at hp
       dsimp only [Ch, cond] at hp
       cases hv : Axq P T mem s op with
       | none => rw [hv] at hp; cases hp
       | some u =>
        rw [hv] at hp; cases hp
        obtain ⟨h1, val, h2, h3⟩ := Baq hT hr hv hS hG
        have hbw : (b == want) = true := by rw [← Aop]; exact hw
        refine WD.gx (v := val) i hi hB hn hj ht hSw (fun _ => h2) (h _ ?_)
        rw [Bb9 hbw]
        exact hr.set (.put h1 h3)
      | false =>
       rw [hw] at hp
       cases hp
       have hbw : (b == want) = false := by rw [← Aop]; exact hw
       refine WD.gx (v := Go.undef) i hi hB hn hj ht hSw (fun hg => by rw [hbw] at hg; cases hg) (h _ ?_)
       rw [Bkp hbw]
       exact hr.set (show upd σ dn Go.undef dn = Go.undef from Akk _ _ _)
     ·rename_i b hb
      have ht := Aju hm.sl hb
      cases hne : Nat.beq d' t with
      | true => rw [hne] at hp; cases hp
      | false =>
       rw [hne] at hp
       dsimp only [Ch, cond] at hp
       cases hv : Axq P T mem (s.res t want) op with
       | none => rw [hv] at hp; cases hp
       | some u =>
        rw [hv] at hp; cases hp
        by_cases hbw : b = want
        ·subst hbw
         obtain ⟨h1, val, h2, h3⟩ := Baq hT (hr.res ht) hv (fun hm w' hw => But (hS hm w' hw) ht) hG
         refine WD.gx (v := val) i hi hB hn hj ht hSw (fun _ => h2) (h _ ?_)
         rw [Bb9 (by simp)]
         exact hr.set (Ayt ht hne (fun _ => h3) (fun e => absurd rfl e))
        ·refine WD.gx (v := Go.undef) i hi hB hn hj ht hSw (fun hg => absurd (by simpa using hg) hbw) (h _ ?_)
         rw [Bkp (by simpa using hbw)]
         exact hr.set (Ayt ht hne (fun e => absurd e hbw) (fun _ => rfl))
     ·cases hp
theorem Ase {z : Array Bool} : ∀ {is : List Nat} {i d : Nat} {v : BG}, Ah4 P n ops z listed s is = some (i, d, v) → ∃ o, ops[i]? = some o ∧ Ace ops (tw z) listed i = true ∧ Bd3 P n ops o s = some (d, v)
 | [], _, _, _, h => by simp [Ah4] at h
 | j :: is, i, d, v, h => by
  simp only [Ah4] at h
  split at h
  ·cases h
  ·rename_i o ho
   split at h
   ·rename_i d' v' hp
    cases h
    cases ht : Ace ops (tw z) listed j with
    | true => rw [ht] at hp; exact ⟨o, ho, by first | exact ht | rfl, hp⟩
    | false => rw [ht] at hp; cases hp
   ·exact Ase h
theorem Bru {S : World → Prop} {z : Array Bool} {fuel i dn : Nat} {o : Oper} {b : BV} {x : b.X} {K : Env → World → Prop} (hr : Rel Z s σs A L σ w) (hi : ops[i]? = some o) (hB : Ace ops (tw z) listed i = true) (hp : Bd3 P n ops o s = some (dn, .on b)) (hx : b.E = some x) (hSw : S w)
  (h : ∀ σ', Rel Z (s.set dn (b.v x)) σs A L σ' w → WD P n ops S (tw z) fuel (listed.setIfInBounds i true) K σ' w) : WD P n ops S (tw z) (fuel + 1) listed K σ w := by
 obtain ⟨d, op, ty, pos, after, g⟩ := o
 have hm := hr.mem
 unfold Bd3 at hp
 simp only at hp
 split at hp
 ·cases hp
 ·rename_i d'
  cases hn : Nat.blt d' n with
  | false => rw [hn] at hp; cases hp
  | true =>
   rw [hn] at hp
   simp only [Bool.not_true, cond_false] at hp; try dsimp only [Ch] at hp
   split at hp
   ·cases hv : bnd P s op with
    | none => rw [hv] at hp; cases hp
    | some u =>
     rw [hv] at hp; cases hp
     obtain ⟨h1, val, h2, h3⟩ := Bkm hr hv hx
     exact WD.x i hi hB hn hSw (fun w' _ => h2 w') (h _ (hr.set (.put h1 h3)))
   ·rename_i j want
    split at hp
    ·cases hp
    ·rename_i t hj
     split at hp
     ·rename_i c hb
      have ht := Avi hm.sl hb
      cases hw : eqB want c with
      | true =>
       rw [hw] at hp
       dsimp only [Ch, cond] at hp
       cases hv : bnd P s op with
       | none => rw [hv] at hp; cases hp
       | some u =>
        rw [hv] at hp; cases hp
        obtain ⟨h1, val, h2, h3⟩ := Bkm hr hv hx
        have hbw : (c == want) = true := by rw [← Aop]; exact hw
        refine WD.gx (v := val) i hi hB hn hj ht hSw (fun _ w' _ => h2 w') (h _ ?_)
        rw [Bb9 hbw]
        exact hr.set (.put h1 h3)
      | false => rw [hw] at hp; cases hp
     ·rename_i c hb
      cases hne : Nat.beq d' t with
      | true => rw [hne] at hp; cases hp
      | false =>
       rw [hne] at hp
       dsimp only [Ch, cond] at hp
       cases hv : bnd P (s.res t want) op with
       | none => rw [hv] at hp; cases hp
       | some u => rw [hv] at hp; cases hp
     ·cases hp
theorem Bmd {S : World → Prop} {z : Array Bool} {fuel i dn t : Nat} {want bv : Bool} {o : Oper} {b : BV} {K : Env → World → Prop} {X : Go.Rx.S → Option R} (hr : Rel Z s σs A L σ w) (hi : ops[i]? = some o) (hB : Ace ops (tw z) listed i = true) (hp : Bd3 P n ops o s = some (dn, .ask t want bv b)) (hSw : S w)
  (hx : (Ch (eqB want bv ) (Option.bind b.E fun x => X ((s.res t bv).set dn (b.v x)) ) <| X ((s.res t bv).set dn .off)) = some r)
  (h : ∀ s', s'.it = s.it → ∀ σ', Rel Z s' σs A L σ' w → X s' = some r → WD P n ops S (tw z) fuel (listed.setIfInBounds i true) K σ' w) : WD P n ops S (tw z) (fuel + 1) listed K σ w := by
 obtain ⟨d, op, ty, pos, after, g⟩ := o
 have hm := hr.mem
 unfold Bd3 at hp
 simp only at hp
 split at hp
 ·cases hp
 ·rename_i d'
  cases hn : Nat.blt d' n with
  | false => rw [hn] at hp; cases hp
  | true =>
   rw [hn] at hp
   simp only [Bool.not_true, cond_false] at hp; try dsimp only [Ch] at hp
   split at hp
   ·cases hv : bnd P s op with
    | none => rw [hv] at hp; cases hp
    | some u => rw [hv] at hp; cases hp
   ·rename_i j want'
    split at hp
    ·cases hp
    ·rename_i t' hj
     split at hp
     ·rename_i c hb
      cases hw : eqB want' c with
      | true =>
       rw [hw] at hp
       dsimp only [Ch, cond] at hp
       cases hv : bnd P s op with
       | none => rw [hv] at hp; cases hp
       | some u => rw [hv] at hp; cases hp
      | false => rw [hw] at hp; cases hp
     ·rename_i c hb
      have ht := Aju hm.sl hb
      cases hne : Nat.beq d' t' with
      | true => rw [hne] at hp; cases hp
      | false =>
       rw [hne] at hp
       dsimp only [Ch, cond] at hp
       cases hv : bnd P (s.res t' want') op with
       | none => rw [hv] at hp; cases hp
       | some u =>
        rw [hv] at hp; cases hp
        cases hw : eqB want bv with
        | true =>
         rw [hw] at hx
         dsimp only [Ch, cond] at hx
         obtain ⟨x, hx, hk⟩ := bind_some hx
         have hbw : bv = want := by cases want <;> cases bv <;> simp_all [eqB]
         subst hbw
         obtain ⟨h1, val, h2, h3⟩ := Bkm (hr.res ht) hv hx
         refine WD.gx (v := val) i hi hB hn hj ht hSw (fun _ w' _ => h2 w') (h ((s.res t bv).set dn (b.v x)) rfl _ ?_ hk)
         rw [Bb9 (by simp)]
         exact (hr.res ht).set (.put h1 h3)
        | false =>
         rw [hw] at hx
         dsimp only [Ch, cond] at hx
         have hbw : (bv == want) = false := by rw [← Aop]; exact hw
         refine WD.gx (v := Go.undef) i hi hB hn hj ht hSw (fun hg => by rw [hbw] at hg; cases hg) (h ((s.res t bv).set dn .off) rfl _ ?_ hx)
         rw [Bkp hbw]
         exact (hr.res ht).set (show upd σ dn Go.undef dn = Go.undef from Akk _ _ _)
     ·cases hp
theorem Az0 {z : Array Bool} : ∀ {is : List Nat} {i : Nat} {v : Nat × TypeId × Nat × List Step}, Al1 n ops z listed s is = some (i, v) → ∃ o, ops[i]? = some o ∧ Ace ops (tw z) listed i = true ∧ Buz n ops o s = some v
 | [], _, _, h => by simp [Al1] at h
 | j :: is, i, v, h => by
  simp only [Al1] at h
  split at h
  ·cases h
  ·rename_i o ho
   split at h
   ·rename_i v' hp
    cases h
    cases ht : Ace ops (tw z) listed j with
    | true => rw [ht] at hp; exact ⟨o, ho, by first | exact ht | rfl, hp⟩
    | false => rw [ht] at hp; cases hp
   ·exact Az0 h
theorem Bwp {d dn : Nat} {o : Op} {t : TypeId} {j : Nat} {p : List Step} {u : PV} {kk : PV → Option R} (hr : Rel Z s σs A L σ w) (hp : Bvw s d o = some (dn, t, j, p)) (h : getRoot (Cc s.it j) p kk = some r) :
  d = dn ∧ ∃ u, kk u = some r ∧ (Om P t u = true → u.isV = true ∧ ∃ val, (∀ w', Ext Z s σs A L σ w w' → XO P σ w' o val) ∧ Eg (fun b => A b ∧ Z.R b) w L u val) := by
 have hm := hr.mem
 unfold Bvw at hp
 split at hp
 ·rename_i t' x
  split at hp
  ·rename_i i p' hx
   split at hp
   ·cases hp
   ·rename_i hne
    cases hp
    obtain ⟨md, b, h1, h2, h3⟩ := Aa8 (Cr hm.sl hx rfl)
    obtain ⟨h4, _⟩ := hm.root h1 (fun e => hne e)
    obtain ⟨u, c1, c2, c3, hk, he, h5, h6⟩ := Bbo h h4
    refine ⟨rfl, u, hk, fun hb => ?_⟩
    obtain ⟨val, h7, h8⟩ := Arf (P := P) (σ := σ) (x := x) (b := b) (off := Ar p) (Rz hb) h6 h3
    obtain ⟨hv, hv'⟩ := Kk h7
    refine ⟨hv, val, fun w' hext => h8 w' fun q hq => ?_, hv'⟩
    obtain ⟨A', L', it', ha, hr'⟩ := hext.ex
    have h10 : (L ++ L')[j]? = some md := by rw [List.getElem?_append_left (List.getElem?_eq_some_iff.1 h1).1]; exact h1
    rw [hr'.cells h10 h2 _ (by rw [he]; simp; omega), he, List.getElem?_append_right (by omega), h5, show Ar p + q - Ar p = q by omega, List.getElem?_append_left hq]
  ·cases hp
 ·cases hp
theorem Bzh {S : World → Prop} {z : Array Bool} {fuel i dn j : Nat} {t : TypeId} {p : List Step} {o : Oper} {kk : PV → Option R} {K : Env → World → Prop} (hr : Rel Z s σs A L σ w) (hi : ops[i]? = some o) (hB : Ace ops (tw z) listed i = true) (hp : Buz n ops o s = some (dn, t, j, p)) (hg : getRoot (Cc s.it j) p kk = some r) (hSw : S w)
  (hS : ∀ w', S w' → Ext Z s σs A L σ w w') (hkk : ∀ u, kk u = some r → Om P t u = true)
  (h : ∀ u σ', kk u = some r → Rel Z (s.set dn u) σs A L σ' w → WD P n ops S (tw z) fuel (listed.setIfInBounds i true) K σ' w) : WD P n ops S (tw z) (fuel + 1) listed K σ w := by
 obtain ⟨d, op, ty, pos, after, g⟩ := o
 have hm := hr.mem
 unfold Buz at hp
 simp only at hp
 split at hp
 ·cases hp
 ·rename_i d'
  cases hn : Nat.blt d' n with
  | false => rw [hn] at hp; cases hp
  | true =>
   rw [hn] at hp
   simp only [Bool.not_true, cond_false] at hp; try dsimp only [Ch] at hp
   split at hp
   ·obtain ⟨rfl, u, hk, hu⟩ := Bwp (P := P) (u := .undef) hr hp hg
    obtain ⟨h1, val, h2, h3⟩ := hu (hkk u hk)
    exact WD.x i hi hB hn hSw (fun w' hw => h2 w' (hS w' hw)) (h u _ hk (hr.set (.put h1 h3)))
   ·rename_i q want
    split at hp
    ·cases hp
    ·rename_i t' hj
     split at hp
     ·rename_i c hb
      have ht := Avi hm.sl hb
      cases hw : eqB want c with
      | true =>
       rw [hw] at hp
       dsimp only [Ch, cond] at hp
       obtain ⟨rfl, u, hk, hu⟩ := Bwp (P := P) (u := .undef) hr hp hg
       obtain ⟨h1, val, h2, h3⟩ := hu (hkk u hk)
       have hbw : (c == want) = true := by rw [← Aop]; exact hw
       refine WD.gx (v := val) i hi hB hn hj ht hSw (fun _ w' hw => h2 w' (hS w' hw)) (h u _ hk ?_)
       rw [Bb9 hbw]
       exact hr.set (.put h1 h3)
      | false => rw [hw] at hp; cases hp
     ·cases hp
theorem Bpc {i t : Nat} {b : Bool} (hr : Rel Z s σs A L σ w) (h : Bln ops s i = some (t, b)) : σ t = .bool b := by
 unfold Bln at h
 split at h
 ·cases h
 ·split at h
  ·cases h
  ·split at h
   ·cases h
   ·split at h
    ·rename_i hb
     cases h
     exact Aju hr.mem.sl hb
    ·split at h
     ·rename_i hb
      cases h
      exact Aju hr.mem.sl hb
     ·cases h
    ·cases h
theorem Asy {fin : S → Option R} : ∀ {l : List Nat} {s : Go.Rx.S}, Rel Z s σs A L σ w → Aom ops l s fin = some r → ∃ s', Rel Z s' σs A L σ w ∧ s'.it = s.it ∧ fin s' = some r
 | [], s, hr, h => ⟨s, hr, rfl, h⟩
 | i :: l, s, hr, h => by
  rw [Aom] at h
  split at h
  ·rename_i t b hg
   have ht := Bpc hr hg
   cases b with
   | true =>
    obtain ⟨s', h1, h2, h3⟩ := Asy (l := l) (hr.res ht) (by simpa using h)
    exact ⟨s', h1, h2, h3⟩
   | false =>
    obtain ⟨s', h1, h2, h3⟩ := Asy (l := l) (hr.res ht) (by simpa using h)
    exact ⟨s', h1, h2, h3⟩
  ·exact Asy (l := l) hr h
theorem Byi (hT : Avp P T Z) (hI : Aq5 P T.gl inl) : ∀ {fuel : Nat} {z0 : Array Bool} {listed : Array Bool} {s : S} {A : Reg} {L : List MD} {σ : Env} {w : World} {S : World → Prop}, Rel Z s σs A L σ w → exD P T inl n mem ops fuel z0 listed s k = some r →
  (mem = true → Alf (tw z0) listed = true ∨ ∀ w', Awp Z σs A L s.it w w' → S w') → (mem = false → ∀ w', GS Z σs w' → S w') →
  WD P n ops S (tw z0) fuel listed (fun σ' w' => ∃ s' A' L', k s' = some r ∧ Rel Z s' σs A' L' σ' w') σ w := by
 intro fuel
 induction fuel with
 | zero =>
  intro z0 listed s A L σ w S hr h hI1 hI2
  unfold exD at h
  split at h
  ·rename_i hrd; exact WD.done hrd ⟨s, A, L, h, hr⟩
  ·cases h
 | succ fuel ih =>
  intro z0 listed s A L σ w S hr h hI1 hI2
  unfold exD at h
  split at h
  ·rename_i hrd; exact WD.done hrd ⟨s, A, L, h, hr⟩
  ·rename_i i is hrd
   simp only at h
   have rest : ∀ (z : Array Bool) (S : World → Prop) (s : Go.Rx.S), Rel Z s σs A L σ w → (mem = true → ∀ w', Awp Z σs A L s.it w w' → S w') → (mem = false → ∀ w', GS Z σs w' → S w') →
     both (match ops[i]? with
        | some o => Ch (mem && !((nbk T s o && gOk ops s o) || (!tw z i && Alf (tw z) (listed.setIfInBounds i true))) ) (none ) <|
         Bba P T inl n ops o s fun s' => exD P T inl n mem ops fuel z (listed.setIfInBounds i true) s' k
        | none => none) (is.map fun i => match ops[i]? with
        | some o => Ch (mem && !((nbk T s o && gOk ops s o) || (!tw z i && Alf (tw z) (listed.setIfInBounds i true))) ) (none ) <|
         Bba P T inl n ops o s fun s' => exD P T inl n mem ops fuel z (listed.setIfInBounds i true) s' k
        | none => none) = some r → WD P n ops S (tw z) (fuel + 1) listed (fun σ' w' => ∃ s' A' L', k s' = some r ∧ Rel Z s' σs A' L' σ' w') σ w := by
    intro z S s hr hS1 hS2 h
    obtain ⟨h1, h2⟩ := Bf1 h
    refine WD.steps hrd rfl ?_
    intro q hq
    have hone : (match ops[q]? with
       | some o => Ch (mem && !((nbk T s o && gOk ops s o) || (!tw z q && Alf (tw z) (listed.setIfInBounds q true))) ) (none ) <|
        Bba P T inl n ops o s fun s' => exD P T inl n mem ops fuel z (listed.setIfInBounds q true) s' k
       | none => none) = some r := by
     rcases List.mem_cons.1 hq with rfl | hq
     ·exact h1
     ·exact h2 _ (List.mem_map_of_mem hq)
    split at hone
    ·rename_i o ho
     refine ⟨o, ho, ?_⟩
     cases hc : (mem && !((nbk T s o && gOk ops s o) || (!tw z q && Alf (tw z) (listed.setIfInBounds q true)))) with
     | true => rw [hc] at hone; cases hone
     | false =>
      rw [hc] at hone
      dsimp only [Ch, cond] at hone
      refine Al3 (Bnh hT hI hr hone) ?_
      rintro σ' w' ⟨s', A', L', g1, g2, g3⟩
      cases hmem : mem with
      | true =>
       subst hmem
       simp only [Bool.true_and, Bool.not_eq_false', Bool.or_eq_true, Bool.and_eq_true, Bool.not_eq_true'] at hc
       rcases hc with hc | ⟨hc1, hc2⟩
       ·have g4 := g3 hc
        refine ⟨fun _ => hS1 rfl _ ⟨s', σ', A', L', g2, g4⟩, ih g2 g1 (fun _ => .inr fun w'' hw => ?_) (fun e => by cases e)⟩
        obtain ⟨s2, σ2, A2, L2, h5, h6⟩ := hw
        exact hS1 rfl _ ⟨s2, σ2, A2, L2, h5, g4.trans h6⟩
       ·refine ⟨fun hlt => ?_, ih g2 g1 (fun _ => .inl hc2) (fun e => by cases e)⟩
        rw [hlt] at hc1; cases hc1
      | false =>
       subst hmem
       exact ⟨fun _ => hS2 rfl _ ⟨_, _, _, _, g2⟩, ih g2 g1 (fun e => by cases e) hS2⟩
    ·cases hone
   have main : ∀ (z : Array Bool) (S : World → Prop) (s : Go.Rx.S) (F : Option R), Rel Z s σs A L σ w → (mem = true → ∀ w', Awp Z σs A L s.it w w' → S w') → (mem = false → ∀ w', GS Z σs w' → S w') → (F = some r → WD P n ops S (tw z) (fuel + 1) listed (fun σ' w' => ∃ s' A' L', k s' = some r ∧ Rel Z s' σs A' L' σ' w') σ w) →
     (match Acx P T n mem ops z listed s (i :: is) with
      | some (i, d, v) => exD P T inl n mem ops fuel z (listed.setIfInBounds i true) (s.set d v) k
      | none => match Ah4 P n ops z listed s (i :: is) with
       | some (i, d, .on b) => Option.bind b.E fun x => exD P T inl n mem ops fuel z (listed.setIfInBounds i true) (s.set d (b.v x)) k
       | some (i, d, .ask t want bv b) => if bv = true then
         (Ch (eqB want true ) (Option.bind b.E fun x => exD P T inl n mem ops fuel z (listed.setIfInBounds i true) ((s.res t true).set d (b.v x)) k ) <| exD P T inl n mem ops fuel z (listed.setIfInBounds i true) ((s.res t true).set d .off) k)
         else (Ch (eqB want false ) (Option.bind b.E fun x => exD P T inl n mem ops fuel z (listed.setIfInBounds i true) ((s.res t false).set d (b.v x)) k ) <| exD P T inl n mem ops fuel z (listed.setIfInBounds i true) ((s.res t false).set d .off) k)
       | none => match (Ch (mem ) (Al1 n ops z listed s (i :: is) ) <| none) with
       | some (i, d, t, j, p) => getRoot (Cc s.it j) p fun u => Ch (Om P t u ) (exD P T inl n mem ops fuel z (listed.setIfInBounds i true) (s.set d u) k ) <| none
       | none => F) = some r → WD P n ops S (tw z) (fuel + 1) listed (fun σ' w' => ∃ s' A' L', k s' = some r ∧ Rel Z s' σs A' L' σ' w') σ w := by
    intro z S s F hr hS1 hS2 hfin h
    split at h
    ·rename_i i' d v hp
     obtain ⟨o, ho, hB, hp⟩ := Avm hp
     cases hmem : mem with
     | true =>
      subst hmem
      refine WD.Bay (S' := Awp Z σs A L s.it w) (hS1 rfl) (Bmq hT hr ho hB hp (.refl hr) (fun _ w' hw => hw.ext hr) (fun w' hw => (hw.ext hr).gs) fun σ' hr' => ?_)
      exact ih hr' h (fun _ => .inr fun w' hw => hw) (fun e => by cases e)
     | false =>
      subst hmem
      refine WD.Bay (S' := GS Z σs) (hS2 rfl) (Bmq hT hr ho hB hp ⟨_, _, _, _, hr⟩ (fun e => by cases e) (fun w' hw => hw) fun σ' hr' => ?_)
      exact ih hr' h (fun e => by cases e) (fun _ w' hw => hw)
    ·split at h
     ·rename_i i' d b hp
      obtain ⟨o, ho, hB, hp⟩ := Ase hp
      obtain ⟨x, hx, h⟩ := bind_some h
      cases hmem : mem with
      | true =>
       subst hmem
       refine WD.Bay (S' := Awp Z σs A L s.it w) (hS1 rfl) (Bru hr ho hB hp hx (.refl hr) fun σ' hr' => ?_)
       exact ih hr' h (fun _ => .inr fun w' hw => hw) (fun e => by cases e)
      | false =>
       subst hmem
       refine Bru hr ho hB hp hx (hS2 rfl _ ⟨_, _, _, _, hr⟩) fun σ' hr' => ?_
       exact ih hr' h (fun e => by cases e) hS2
     ·rename_i i' d t want bv b hp
      obtain ⟨o, ho, hB, hp⟩ := Ase hp
      have h : (Ch (eqB want bv ) (Option.bind b.E fun x => exD P T inl n mem ops fuel z (listed.setIfInBounds i' true) ((s.res t bv).set d (b.v x)) k ) <| exD P T inl n mem ops fuel z (listed.setIfInBounds i' true) ((s.res t bv).set d .off) k) = some r := by
       cases bv with
       | true => simpa using h
       | false => simpa using h
      cases hmem : mem with
      | true =>
       subst hmem
       refine WD.Bay (S' := Awp Z σs A L s.it w) (hS1 rfl) (Bmd (X := fun s' => exD P T inl n true ops fuel z (listed.setIfInBounds i' true) s' k) hr ho hB hp (.refl hr) h fun s' hs' σ' hr' h => ?_)
       exact ih hr' h (fun _ => .inr fun w' hw => hs' ▸ hw) (fun e => by cases e)
      | false =>
       subst hmem
       refine Bmd (X := fun s' => exD P T inl n false ops fuel z (listed.setIfInBounds i' true) s' k) hr ho hB hp (hS2 rfl _ ⟨_, _, _, _, hr⟩) h fun s' hs' σ' hr' h => ?_
       exact ih hr' h (fun e => by cases e) hS2
     ·split at h
      ·rename_i i' d t j p hp
       cases hmem : mem with
       | false => rw [hmem] at hp; cases hp
       | true =>
        subst hmem
        dsimp only [Ch, cond] at hp
        obtain ⟨o, ho, hB, hp⟩ := Az0 hp
        refine WD.Bay (S' := Awp Z σs A L s.it w) (hS1 rfl) (Bzh (P := P) hr ho hB hp h (.refl hr) (fun w' hw => hw.ext hr) (fun u hu => (Az hu).1) fun u σ' hu hr' => ?_)
        exact ih hr' (Az hu).2 (fun _ => .inr fun w' hw => hw) (fun e => by cases e)
      exact hfin h
   have all : ∀ (z : Array Bool) (S : World → Prop), (mem = true → ∀ w', Awp Z σs A L s.it w w' → S w') → (mem = false → ∀ w', GS Z σs w' → S w') →
     (match Acx P T n mem ops z listed s (i :: is) with
      | some (i, d, v) => exD P T inl n mem ops fuel z (listed.setIfInBounds i true) (s.set d v) k
      | none => match Ah4 P n ops z listed s (i :: is) with
       | some (i, d, .on b) => Option.bind b.E fun x => exD P T inl n mem ops fuel z (listed.setIfInBounds i true) (s.set d (b.v x)) k
       | some (i, d, .ask t want bv b) => if bv = true then
         (Ch (eqB want true ) (Option.bind b.E fun x => exD P T inl n mem ops fuel z (listed.setIfInBounds i true) ((s.res t true).set d (b.v x)) k ) <| exD P T inl n mem ops fuel z (listed.setIfInBounds i true) ((s.res t true).set d .off) k)
         else (Ch (eqB want false ) (Option.bind b.E fun x => exD P T inl n mem ops fuel z (listed.setIfInBounds i true) ((s.res t false).set d (b.v x)) k ) <| exD P T inl n mem ops fuel z (listed.setIfInBounds i true) ((s.res t false).set d .off) k)
       | none => match (Ch (mem ) (Al1 n ops z listed s (i :: is) ) <| none) with
       | some (i, d, t, j, p) => getRoot (Cc s.it j) p fun u => Ch (Om P t u ) (exD P T inl n mem ops fuel z (listed.setIfInBounds i true) (s.set d u) k ) <| none
       | none => (fun s => Ch mem (Aom ops ((i :: is) ++ (i :: is)) s fun s => (match Acx P T n mem ops z listed s (i :: is) with
      | some (i, d, v) => exD P T inl n mem ops fuel z (listed.setIfInBounds i true) (s.set d v) k
      | none => match Ah4 P n ops z listed s (i :: is) with
       | some (i, d, .on b) => Option.bind b.E fun x => exD P T inl n mem ops fuel z (listed.setIfInBounds i true) (s.set d (b.v x)) k
       | some (i, d, .ask t want bv b) => if bv = true then
         (Ch (eqB want true ) (Option.bind b.E fun x => exD P T inl n mem ops fuel z (listed.setIfInBounds i true) ((s.res t true).set d (b.v x)) k ) <| exD P T inl n mem ops fuel z (listed.setIfInBounds i true) ((s.res t true).set d .off) k)
         else (Ch (eqB want false ) (Option.bind b.E fun x => exD P T inl n mem ops fuel z (listed.setIfInBounds i true) ((s.res t false).set d (b.v x)) k ) <| exD P T inl n mem ops fuel z (listed.setIfInBounds i true) ((s.res t false).set d .off) k)
       | none => match (Ch (mem ) (Al1 n ops z listed s (i :: is) ) <| none) with
       | some (i, d, t, j, p) => getRoot (Cc s.it j) p fun u => Ch (Om P t u ) (exD P T inl n mem ops fuel z (listed.setIfInBounds i true) (s.set d u) k ) <| none
       | none => both (match ops[i]? with
        | some o => Ch (mem && !((nbk T s o && gOk ops s o) || (!tw z i && Alf (tw z) (listed.setIfInBounds i true))) ) (none ) <|
         Bba P T inl n ops o s fun s' => exD P T inl n mem ops fuel z (listed.setIfInBounds i true) s' k
        | none => none) (is.map fun i => match ops[i]? with
        | some o => Ch (mem && !((nbk T s o && gOk ops s o) || (!tw z i && Alf (tw z) (listed.setIfInBounds i true))) ) (none ) <|
         Bba P T inl n ops o s fun s' => exD P T inl n mem ops fuel z (listed.setIfInBounds i true) s' k
        | none => none))) <| both (match ops[i]? with
        | some o => Ch (mem && !((nbk T s o && gOk ops s o) || (!tw z i && Alf (tw z) (listed.setIfInBounds i true))) ) (none ) <|
         Bba P T inl n ops o s fun s' => exD P T inl n mem ops fuel z (listed.setIfInBounds i true) s' k
        | none => none) (is.map fun i => match ops[i]? with
        | some o => Ch (mem && !((nbk T s o && gOk ops s o) || (!tw z i && Alf (tw z) (listed.setIfInBounds i true))) ) (none ) <|
         Bba P T inl n ops o s fun s' => exD P T inl n mem ops fuel z (listed.setIfInBounds i true) s' k
        | none => none)) s) = some r → WD P n ops S (tw z) (fuel + 1) listed (fun σ' w' => ∃ s' A' L', k s' = some r ∧ Rel Z s' σs A' L' σ' w') σ w := by
    intro z S hS1 hS2 h
    refine main z S s _ hr hS1 hS2 (fun hF => ?_) h
    clear h
    cases hmem : mem with
    | false =>
     simp only [hmem, Ch] at hF
     subst hmem
     exact rest z S s hr hS1 hS2 hF
    | true =>
     simp only [hmem, Ch] at hF
     subst hmem
     obtain ⟨s', hr', hit, h'⟩ := Asy hr hF
     refine main z S s' _ hr' (by rw [hit]; exact hS1) hS2 (fun hG => ?_) h'
     exact rest z S s' hr' (by rw [hit]; exact hS1) hS2 hG
   cases hz : (mem && Alf (tw z0) listed) with
   | true =>
    rw [hz] at h
    simp only [Bool.and_eq_true] at hz
    obtain ⟨hm, hov⟩ := hz
    subst hm
    exact WD.next (S' := Awp Z σs A L s.it w) _ hov (all _ _ (fun _ w' hw => hw) (fun e => by cases e) h)
   | false =>
    rw [hz] at h
    refine all _ _ (fun hm => ?_) hI2 h
    subst hm
    rcases hI1 rfl with h1 | h1
    ·rw [h1] at hz; cases hz
    ·exact h1
end Go.Rx
set_option linter.unusedVariables false
set_option linter.unusedSimpArgs false
namespace Go.Rx
open Go Go.Lv
variable {P : Program} {B B' : Reg} {w w' : World} {L L' : List MD} {s : S} {σs : List Env} {σ : Env} {Z : Fix} {A A' : Reg} {n : Nat} {ops : Array Oper}
variable {R : Type} {k : S → Option R} {r : R}
def Bwo (w : World) (A : Reg) (L : List Mob) (os : Nat → Option Nat) : Prop :=
 (∀ (i : Nat) (m : Mob), L[i]? = some m → m.holds (os i) w ∧ ∀ b, os i = some b → ¬ A b ∧ b < w.heap.size) ∧ ∀ i j b, i < L.length → j < L.length → i ≠ j → os i = some b → os j ≠ some b
theorem Mobs.toI : ∀ {L : List Mob} {A : Reg}, Mobs w A L → ∃ os, Bwo w A L os
 | [], A, _ => ⟨fun _ => none, fun i m h => by simp at h, fun i j b h => by simp at h⟩
 | m :: L, A, ⟨o, h1, h2, h3⟩ => by
  obtain ⟨os, g1, g2⟩ := Mobs.toI h3
  refine ⟨fun i => match i with | 0 => o | i + 1 => os i, fun i m' h => ?_, fun i j b hi hj hij h => ?_⟩
  ·cases i with
   | zero => simp at h; subst h; exact ⟨h1, h2⟩
   | succ i =>
    obtain ⟨g3, g4⟩ := g1 i m' (by simpa using h)
    exact ⟨g3, fun b hb => ⟨fun hA => (g4 b hb).1 (.inl hA), (g4 b hb).2⟩⟩
  ·have key : ∀ q, q < L.length → ∀ b, os q = some b → o ≠ some b := fun q hq b hb ho => by
    exact ((g1 q L[q] (by simp [hq])).2 b hb).1 (.inr ho)
   cases i with
   | zero =>
    cases j with
    | zero => exact absurd rfl hij
    | succ j => intro hb; exact key j (by simpa using hj) b hb h
   | succ i =>
    cases j with
    | zero => exact key i (by simpa using hi) b h
    | succ j => exact g2 i j b (by simpa using hi) (by simpa using hj) (by omega) h
theorem Mobs.ofI : ∀ {L : List Mob} {A : Reg} {os : Nat → Option Nat}, Bwo w A L os → Mobs w A L
 | [], _, _, _ => trivial
 | m :: L, A, os, ⟨g1, g2⟩ => by
  obtain ⟨h1, h2⟩ := g1 0 m rfl
  refine ⟨os 0, h1, h2, Mobs.ofI (os := fun i => os (i + 1)) ⟨fun i m' h => ?_, fun i j b hi hj hij h => ?_⟩⟩
  ·obtain ⟨g3, g4⟩ := g1 (i + 1) m' (by simpa using h)
   refine ⟨g3, fun b hb => ⟨fun hA => ?_, (g4 b hb).2⟩⟩
   rcases hA with hA | hA
   ·exact (g4 b hb).1 hA
   ·have hlt : i < L.length := (List.getElem?_eq_some_iff.1 h).1
    exact g2 0 (i + 1) b (by simp) (by simpa using hlt) (by omega) hA hb
  ·exact g2 (i + 1) (j + 1) b (by simpa using hi) (by simpa using hj) (by omega) h
def distinct : List Nat → Bool | [] => true | i :: r => !Abe i r && distinct r
theorem Av7 : ∀ {l : List Nat} {i j q : Nat}, distinct l = true → l[i]? = some q → l[j]? = some q → i = j
 | [], _, _, _, _, h, _ => by simp at h
 | a :: l, i, j, q, hd, hi, hj => by
  simp only [distinct, Bool.and_eq_true, Bool.not_eq_true'] at hd
  have hn : a ∉ l := fun h => by have := Acs.2 h; rw [hd.1] at this; cases this
  cases i with
  | zero =>
   cases j with
   | zero => rfl
   | succ j => simp at hi hj; subst hi; exact absurd (List.mem_of_getElem? hj) hn
  | succ i =>
   cases j with
   | zero => simp at hi hj; subst hj; exact absurd (List.mem_of_getElem? hi) hn
   | succ j => exact congrArg (· + 1) (Av7 (q := q) hd.2 (by simpa using hi) (by simpa using hj))
theorem Bac {w : World} : MD.dead.Jv.holds none w := ⟨none, 0, 0, rfl, by simp, Nat.le_refl _, fun _ => rfl, fun _ => rfl, fun b h => by cases h⟩
theorem getD_some {i : Nat} {md : MD} (h : L[i]? = some md) : L.getD i .dead = md := by simp [List.getD_eq_getElem?_getD, h]
theorem getD_none {i : Nat} (h : L[i]? = none) : L.getD i .dead = .dead := by simp [List.getD_eq_getElem?_getD, h]
def Biw (o : List Nat) (L : List MD) (os : Nat → Option Nat) (j : Nat) : Option Nat := match o[j]? with | some i => (match L[i]? with | some _ => os i | none => none) | none => none
theorem Aub {o : List Nat} {os : Nat → Option Nat} {i j : Nat} {md : MD} (h : o[j]? = some i) (hL : L[i]? = some md) : Biw o L os j = os i := by unfold Biw; rw [h]; simp only [hL]
theorem Auc {o : List Nat} {os : Nat → Option Nat} {i j : Nat} (h : o[j]? = some i) (hL : L[i]? = none) : Biw o L os j = none := by unfold Biw; rw [h]; simp only [hL]
theorem Beh {o : List Nat} (h : Mobs w A (L.map MD.Jv)) (hd : distinct o = true) : Mobs w A ((o.map fun i => L.getD i .dead).map MD.Jv) := by
 obtain ⟨os, g1, g2⟩ := Mobs.toI h
 refine Mobs.ofI (os := Biw o L os) ⟨fun j m hm => ?_, fun i j b hi hj hij hb => ?_⟩
 ·simp only [List.map_map, List.getElem?_map, Option.map_eq_some_iff, Function.comp] at hm
  obtain ⟨i, hi, rfl⟩ := hm
  cases hL : L[i]? with
  | none => rw [getD_none hL, Auc hi hL]; exact ⟨Bac, fun b hb => by cases hb⟩
  | some md => rw [getD_some hL, Aub hi hL]; exact g1 i md.Jv (by simp [hL])
 ·simp only [List.length_map] at hi hj
  have e1 : o[i]? = some o[i] := by simp [hi]
  have e2 : o[j]? = some o[j] := by simp [hj]
  have hne : o[i] ≠ o[j] := fun e => hij (Av7 hd e1 (by rw [e2, e]))
  cases hL1 : L[o[i]]? with
  | none => rw [Auc e1 hL1] at hb; cases hb
  | some m1 =>
   rw [Aub e1 hL1] at hb
   cases hL2 : L[o[j]]? with
   | none => rw [Auc e2 hL2]; simp
   | some m2 =>
    rw [Aub e2 hL2]
    exact g2 _ _ b (by simpa using (List.getElem?_eq_some_iff.1 hL1).1) (by simpa using (List.getElem?_eq_some_iff.1 hL2).1) hne hb
theorem Bib {i : Nat} : ∀ {o : List Nat} {m j : Nat}, posOf i o m = some j → ∃ q, j = m + q ∧ o[q]? = some i
 | [], _, _, h => by simp [posOf] at h
 | a :: o, m, j, h => by
  simp only [posOf] at h
  cases hb : Nat.beq i a with
  | true => rw [hb] at h; cases h; exact ⟨0, rfl, by simp [Cf hb]⟩
  | false =>
   rw [hb] at h
   obtain ⟨q, h1, h2⟩ := Bib (o := o) h
   exact ⟨q + 1, by omega, by simpa using h2⟩
theorem Axe {o : List Nat} {i j : Nat} {md : MD} (h : posOf i o 0 = some j) (hL : L[i]? = some md) : (o.map fun i => L.getD i .dead)[j]? = some md := by
 obtain ⟨q, h1, h2⟩ := Bib h
 rw [Nat.zero_add] at h1; subst h1
 simp [h2, List.getD_eq_getElem?_getD, hL]
theorem Bme {o : List Nat} {p : PV} : (ren o p).isA = p.isA := by
 cases p <;> try rfl
 ·simp only [ren]; split <;> rfl
 ·simp only [ren]; split <;> rfl
 ·simp only [ren]; split <;> rfl
abbrev Atg (L : List MD) : Prop := L.all (fun m => match m with | .own _ _ v _ => v.oneCell' | _ => true) = true
mutual
theorem Avl {o : List Nat} (h1 : Atg L) : ∀ {p : PV} {cs : List Value}, EncC B w L p cs → EncC B w (o.map fun i => L.getD i .dead) (ren o p) cs
 | .val _ x, cs, h => h
 | .agg q, cs, h => Bii h1 (show EncC.go B w L q cs from h)
 | .tup _, _, h => h.elim
 | .nils, cs, h => h
 | .own j, cs, ⟨z, E, v, c, g1, g2⟩ => by
  simp only [ren]
  split
  ·rename_i j' hj; exact ⟨z, E, v, c, Axe hj g1, g2⟩
  ·exact ⟨v, g2, List.all_eq_true.1 h1 _ (List.mem_of_getElem? g1)⟩
 | .ptr j q, cs, ⟨md, b, g1, g2, g3⟩ => by
  simp only [ren]
  split
  ·rename_i j' hj; exact ⟨md, b, Axe hj g1, g2, g3⟩
  ·exact ⟨_, g3, rfl⟩
 | .view u j p e lo n, cs, ⟨md, v, g1, g2, g3⟩ => by
  simp only [ren]
  split
  ·rename_i j' hj; exact ⟨md, v, Axe hj g1, g2, g3⟩
  ·obtain ⟨_, _, ⟨pt, cap, e', _⟩, _⟩ := g3
   exact ⟨v, g2, by rw [e']; rfl⟩
 | .rptr v, cs, ⟨pv, c0, g1, g2, g3⟩ => ⟨pv, c0, g1, g2, Avl h1 g3⟩
 | .fn f caps, cs, ⟨vs, g1, g2⟩ => ⟨vs, g1, Bb4 h1 g2⟩
 | .cst v, cs, h => h
 | .any, cs, h => h
 | .gd _ _ _, _, h => h.elim
 | .off, _, h => h.elim
 | .undef, _, h => h.elim
theorem Bii {o : List Nat} (h1 : Atg L) : ∀ {q : List PV} {cs : List Value}, EncC.go B w L q cs → EncC.go B w (o.map fun i => L.getD i .dead) (ren.go o q) cs
 | [], cs, h => h
 | a :: q, cs, ⟨c1, c2, e', g1, g2⟩ => ⟨c1, c2, e', Avl h1 g1, Bii h1 g2⟩
theorem Bb4 {o : List Nat} (h1 : Atg L) : ∀ {q : List PV} {vs : List Value}, EncVs B w L q vs → EncVs B w (o.map fun i => L.getD i .dead) (ren.go o q) vs
 | [], vs, h => h
 | a :: q, vs, ⟨v, vs', e', g1, g2⟩ => ⟨v, vs', e', by rw [Bme]; exact g1.mono fun c h => Avl h1 h, Bb4 h1 g2⟩
end
theorem Bi2 {o : List Nat} (h1 : Atg L) {p : PV} {v : Value} (h : Eg B w L p v) : Eg B w (o.map fun i => L.getD i .dead) (ren o p) v := by
 cases hp : p.isP with
 | true =>
  have h2 : Iw B w (o.map fun i => L.getD i .dead) (ren o p) v := by
   unfold Iw; rw [Bme]; exact asV.mono (fun c h => Avl h1 h) ((Arh hp).1 h)
  exact (Kk h2).2
 | false =>
  cases p
  case tup q => obtain ⟨vs, g1, g2⟩ := h; exact ⟨vs, g1, Bb4 h1 g2⟩
  case undef => exact (show False from h).elim
  case off => exact (show False from h).elim
  case gd => exact (show False from h).elim
  all_goals cases hp
theorem Bog {o : List Nat} (h1 : Atg L) {t : Nat} {p : PV} (h : Jt B w L σ t p) : Jt B w (o.map fun i => L.getD i .dead) σ t (ren o p) := by
 cases hv : p.isV with
 | true =>
  have g1 := Bi2 (o := o) h1 ((Jt.iff hv).1 h)
  have g2 : (ren o p).isV = true := by
   cases p <;> first | rfl | cases hv | skip
   ·simp only [ren]; split <;> rfl
   ·simp only [ren]; split <;> rfl
   ·simp only [ren]; split <;> rfl
  exact (Jt.iff g2).2 g1
 | false =>
  rcases Acm hv with rfl | rfl | ⟨j, u, q, rfl⟩
  ·exact trivial
  ·exact h
  ·obtain ⟨b, g1, g2, g3⟩ := h
   exact ⟨b, g1, fun e => Bi2 h1 (g2 e), g3⟩
theorem Azn {o : List Nat} (h1 : Atg L) {sl : Slots} (h : SlotsR B w L σ sl) : SlotsR B w (o.map fun i => L.getD i .dead) σ (Bnk o sl) := by
 intro p hp
 obtain ⟨q, hq, rfl⟩ := List.mem_map.1 hp
 exact Bog h1 (h q hq)
theorem Bcq {o : List Nat} (h1 : Atg L) : ∀ {σs : List Env} {st : List Slots}, StackR B w L σs st → StackR B w (o.map fun i => L.getD i .dead) σs (st.map (Bnk o))
 | [], [], h => h
 | _ :: _, _ :: _, ⟨g1, g2⟩ => ⟨Azn h1 g1, Bcq h1 g2⟩
theorem Bek {o : List Nat} (h1 : Atg L) {a : Item} {md : MD} (h : ItemR B w L a md) : ItemR B w (o.map fun i => L.getD i .dead) (Bw0 o a) md := by
 cases a <;> cases md <;> first
  | exact h
  | exact ⟨h.1, Avl h1 h.2⟩
theorem An0 {sl : Slots} (h : SlotsR B w L σ sl) : ∀ (lv : List Nat), SlotsR B w L σ (Atm sl lv)
 | [] => fun p hp => by simp [Atm] at hp
 | t :: lv => by
  intro p hp
  simp only [Atm] at hp
  split at hp
  ·exact An0 h lv p hp
  ·exact An0 h lv p hp
  ·exact An0 h lv p hp
  ·rcases List.mem_cons.1 hp with rfl | hp
   ·exact Vk (s := ⟨sl, [], []⟩) (t := t) h
   ·exact An0 h lv p hp
theorem Atk : ∀ {l : List Nat} {i : Nat}, distinct l = true → Abe i l = false → distinct (l ++ [i]) = true
 | [], _, _, _ => rfl
 | a :: l, i, hd, hi => by
  simp only [distinct, Bool.and_eq_true, Bool.not_eq_true'] at hd
  simp only [Abe, Bool.or_eq_false_iff] at hi
  simp only [List.cons_append, distinct, Bool.and_eq_true, Bool.not_eq_true']
  refine ⟨?_, Atk hd.2 hi.2⟩
  cases hx : Abe a (l ++ [i]) with
  | false => rfl
  | true =>
   rcases List.mem_append.1 (Acs.1 hx) with h | h
   ·have := Acs.2 h; rw [hd.1] at this; cases this
   ·simp at h; subst h; simp at hi
theorem Ak4 {it : List Item} : ∀ (q : Nat) (todo seen : List Nat), distinct seen = true → distinct (reach it q todo seen) = true
 | 0, _, _, h => h
 | _ + 1, [], _, h => h
 | q + 1, i :: todo, seen, h => by
  simp only [reach]
  cases he : Abe i seen with
  | true => exact Ak4 q _ _ h
  | false => exact Ak4 q _ _ (Atk h he)
theorem Bte (hr : Rel Z s σs A L σ w) (lv : List Nat) : ∃ L', Rel Z (s.canon lv) σs A L' σ w := by
 have hm := hr.mem
 have h1 : Atg L := hr.Atg
 unfold S.canon
 simp only
 generalize ho : reach s.it 200 (Bf7 (Atm s.sl lv) ++ (s.st.map Bf7).flatten) [] = o
 have hd : distinct o = true := by rw [← ho]; exact Ak4 _ _ _ rfl
 refine ⟨o.map fun i => L.getD i .dead, ?_⟩
 have hst : St A w [Ayk Z.R L s σs σ, .old Z.M Z.w0] ((o.map fun i => L.getD i .dead).map MD.Jv) := ⟨St.lt hr, St.facts hr, Beh (St.mobs hr) hd⟩
 refine Rel.as hst (i := 1) rfl ⟨⟨by simp, fun j a m g1 g2 => ?_⟩, Azn h1 (An0 hm.sl lv), Bcq h1 hm.stk⟩ rfl
 simp only [List.getElem?_map, Option.map_eq_some_iff] at g1 g2
 obtain ⟨i, g3, rfl⟩ := g1
 obtain ⟨i', g4, rfl⟩ := g2
 rw [g3] at g4; cases g4
 cases hi : Cc s.it i with
 | dead => exact trivial
 | box T v =>
  obtain ⟨md, g5, g6⟩ := hm.item hi (by intro e; cases e)
  rw [getD_some g5]
  exact Bek h1 g6
 | arr E e l =>
  obtain ⟨md, g5, g6⟩ := hm.item hi (by intro e; cases e)
  rw [getD_some g5]
  exact Bek h1 g6
theorem Azw : ∀ {p : List Nat} {v u : PV} {cs : List Value}, atV v p = some u → EncC B w L v cs → (∃ c, EncC B w L u c) ∧ ∀ (B' : Reg) (w' : World) (L' : List MD) (m v' : PV), (∀ q c, EncC B w L q c → EncC B' w' L' q c) → (∀ c, EncC B w L u c → EncC B' w' L' m c) → m.isA = u.isA → Blc m v p = some v' → EncC B' w' L' v' cs ∧ v'.isA = v.isA
 | [], v, u, cs, h, hv => by
  simp only [atV, Option.some.injEq] at h; subst h
  refine ⟨⟨cs, hv⟩, fun B' w' L' m v' _ hm hA hp => ?_⟩
  simp only [Blc, Option.some.injEq] at hp; subst hp
  exact ⟨hm _ hv, hA⟩
 | i :: p, v, u, cs, h, hv => by
  cases v <;> simp only [atV, reduceCtorEq] at h
  rename_i l
  split at h
  ·rename_i f hf
   obtain ⟨c1, c2, c3, e, h1, h2, h3⟩ := EncC.field (show EncC.go B w L l cs from hv) hf
   obtain ⟨g1, g2⟩ := Azw h h2
   refine ⟨g1, fun B' w' L' m v' hq hm hA hp => ?_⟩
   simp only [Blc, hf] at hp
   split at hp
   ·rename_i f' hf'
    cases hp
    obtain ⟨g3, _⟩ := g2 B' w' L' m f' hq hm hA hf'
    refine ⟨?_, rfl⟩
    have hl : EncC.go B' w' L' l cs := show EncC B' w' L' (.agg l) cs from hq _ _ hv
    obtain ⟨d1, d2, d3, e', k1, k2, k3⟩ := EncC.field hl hf
    have : d2 = c2 := by
     have l1 : d1.length = c1.length := k1.trans h1.symm
     have l2 : d2.length = c2.length := k2.len.trans h2.len.symm
     rw [e] at e'
     obtain ⟨e1, e2⟩ := List.append_inj e' l1.symm
     obtain ⟨e3, _⟩ := List.append_inj e2 l2.symm
     exact e3.symm
    rw [e']
    exact k3 _ _ (by rw [this]; exact g3)
   ·cases hp
  ·cases h
theorem Bj2 (hr : Rel Z s σs A L σ w) (E : TypeId) (e : ET) : Rel Z (s.add (.arr E e [])) σs A (L ++ [.own e.size E (.slice none 0 0) []]) σ w :=
 Rel.push (a := .arr E e []) (md := .own e.size E (.slice none 0 0) []) (St.Bgj hr e.size E) ⟨rfl, rfl, rfl⟩
theorem Ba1 {i b : Nat} {T : TypeId} {v' : PV} {cells : List Value} (hr : Rel Z s σs A L σ w) (hL : L[i]? = some (.box b cells T)) (hv : EncC (fun b => A b ∧ Z.R b) w L v' cells) : Rel Z (s.upd i (.box T v')) σs A L σ w := by
 have hm := hr.mem
 refine Rel.as hr (i := 1) rfl ⟨⟨by simp [S.upd, As8, hm.it.1], fun j a m h1 h2 => ?_⟩, hm.sl, hm.stk⟩ rfl
 simp only [S.upd] at h1
 rcases Asr h1 with ⟨rfl, rfl⟩ | ⟨_, h4⟩
 ·rw [hL] at h2; cases h2; exact ⟨rfl, hv⟩
 ·exact hm.it.2 j a m h4 h2
theorem Bhk {t : Nat} {m : PV} : ∀ {sl : Slots} {q : Nat} {v : PV}, (q, v) ∈ Bkv t m sl → (q, v) ∈ sl ∨ (q = t ∧ v = m)
 | [], _, _, h => by simp [Bkv] at h
 | (q', v') :: r, q, v, h => by
  simp only [Bkv] at h
  cases hb : Nat.beq q' t with
  | true =>
   rw [hb] at h
   rcases List.mem_cons.1 h with h | h
   ·cases h; exact .inr ⟨Cf hb, rfl⟩
   ·exact .inl (.tail _ h)
  | false =>
   rw [hb] at h
   rcases List.mem_cons.1 h with h | h
   ·cases h; exact .inl (.head _)
   ·exact (Bhk h).imp (.tail _) id
theorem Az6 {t : Nat} {m : PV} (hr : Rel Z s σs A L σ w) (hm : Jt (fun b => A b ∧ Z.R b) w L σ t m) : Rel Z ⟨Bkv t m s.sl, s.it, s.st⟩ σs A L σ w := by
 refine hr.Bmf rfl rfl ?_
 rintro ⟨q, v⟩ hp
 rcases Bhk hp with h | ⟨rfl, rfl⟩
 ·exact hr.mem.sl _ h
 ·exact hm
theorem Bhp {e : ET} {c : List Value} (h : EncC B w L .nils c) : EncC B w L (.val (.list e) []) c := ⟨_, [], show c = _ from h, Rd.nil, rfl⟩
theorem Bvq {a : At} {s' : S} (hr : Rel Z s σs A L σ w) (h : Bye s a = some s') : ∃ A' L', Rel Z s' σs A' L' σ w := by
 have hm := hr.mem
 unfold Bye at h
 simp only at h
 split at h
 ·
  rename_i i q hsl
  split at h
  ·rename_i T v hi
   split at h
   ·rename_i u hu
    obtain ⟨b, cells, hL, hv⟩ := hm.box hi
    split at h
    ·rename_i E e _
     split at h
     ·rename_i v' hv'
      cases h
      obtain ⟨_, g⟩ := Azw hu hv
      have hr2 := Bj2 hr E e
      have hL2 : (L ++ [.own e.size E (.slice none 0 0) []])[i]? = some (.box b cells T) := by rw [List.getElem?_append_left (List.getElem?_eq_some_iff.1 hL).1]; exact hL
      obtain ⟨g1, _⟩ := g (fun b => A b ∧ Z.R b) w (L ++ [.own e.size E (.slice none 0 0) []]) (.own s.new) v' (fun q c h => EncC.step (fun _ h => h) (fun _ _ => rfl) (LeL.append _ _) h)
       (fun c hc => ⟨e.size, E, _, [], by rw [S.new, hr.len]; simp, hc⟩) rfl hv'
      exact ⟨_, _, Ba1 hr2 hL2 g1⟩
     ·cases h
    ·cases h; exact ⟨A, L, hr⟩
    ·rename_i e _
     split at h
     ·rename_i v' hv'
      cases h
      obtain ⟨_, g⟩ := Azw hu hv
      obtain ⟨g1, _⟩ := g (fun b => A b ∧ Z.R b) w L (.val (.list e) []) v' (fun q c h => h) (fun c hc => Bhp hc) rfl hv'
      exact ⟨_, _, Ba1 hr hL g1⟩
     ·cases h
    ·obtain ⟨A', h1, _⟩ := Auy hr h; exact ⟨A', _, h1⟩
    ·cases h; exact ⟨A, L, hr⟩
    ·cases h
   ·cases h
  ·cases h
 split at h
 ·
  rename_i o i p e1 lo n hsl
  split at h
  ·rename_i E e _ _
   obtain ⟨hb, h⟩ := Az h
   split at h
   ·rename_i s1 j h1
    cases h
    have hx : Ej s.sl (.tmp a.t) = .view o i p e1 lo n := by simp only [Ej, hsl]
    obtain ⟨L1, hr1, c0, hL⟩ := Bje (x := .tmp a.t) hr (by simpa [Nat.blt_eq] using hb) (by rw [hx]; rfl) (by rw [hx]; exact h1)
    exact ⟨_, _, Az6 hr1 ⟨_, _, _, _, hL, rfl⟩⟩
   ·cases h
  ·cases h
 ·
  split at h
  ·rename_i u hu
   have hsl := Vk (t := a.t) hm.sl
   have slotR : ∀ (B' : Reg) (L' : List MD) (m v' : PV), (∀ q c, EncC (fun b => A b ∧ Z.R b) w L q c → EncC B' w L' q c) → (∀ c, EncC (fun b => A b ∧ Z.R b) w L u c → EncC B' w L' m c) → m.isA = u.isA → u = .nils → Blc m (Ael s.sl a.t) a.p = some v' → Jt B' w L' σ a.t v' := by
    intro B' L' m v' hq hmu hA hun hp
    have hP : (Ael s.sl a.t).isP = true := by
     revert hu
     generalize Ael s.sl a.t = x
     generalize a.p = pp
     intro hu
     cases pp with
     | nil => simp only [atV, Option.some.injEq] at hu; rw [hu, hun]; rfl
     | cons _ _ => cases x <;> first | rfl | simp [atV] at hu
    have hE : Iw (fun b => A b ∧ Z.R b) w L (Ael s.sl a.t) (σ a.t) := (Arh hP).1 ((Jt.iff (PV.Bdx hP)).1 hsl)
    have key : Iw B' w L' v' (σ a.t) := by
     unfold Iw asV at hE
     split at hE
     ·rename_i hA'
      obtain ⟨cs, e1, hc⟩ := hE
      obtain ⟨_, g⟩ := Azw hu hc
      obtain ⟨g1, g2⟩ := g B' w L' m v' hq hmu hA hp
      unfold Iw; rw [g2, hA']; exact ⟨cs, e1, g1⟩
     ·rename_i hA'
      obtain ⟨_, g⟩ := Azw hu hE
      obtain ⟨g1, g2⟩ := g B' w L' m v' hq hmu hA hp
      unfold Iw; rw [g2, hA']; exact g1
    obtain ⟨k1, k2⟩ := Kk key
    exact (Jt.iff k1).2 k2
   split at h
   ·rename_i E e _
    split at h
    ·rename_i v' hv'
     cases h
     have hr2 := Bj2 hr E e
     exact ⟨_, _, Az6 (s := s.add (.arr E e [])) hr2 (slotR _ _ (.own s.new) v' (fun q c h => EncC.step (fun _ h => h) (fun _ _ => rfl) (LeL.append _ _) h) (fun c hc => ⟨e.size, E, _, [], by rw [S.new, hr.len]; simp, hc⟩) rfl rfl hv')⟩
    ·cases h
   ·cases h; exact ⟨A, L, hr⟩
   ·rename_i e _
    split at h
    ·rename_i v' hv'
     cases h
     exact ⟨_, _, Az6 hr (slotR _ _ (.val (.list e) []) v' (fun q c h => h) (fun c hc => Bhp hc) rfl rfl hv')⟩
    ·cases h
   ·obtain ⟨A', h1, _⟩ := Auy hr h; exact ⟨A', _, h1⟩
   ·cases h; exact ⟨A, L, hr⟩
   ·cases h
  ·cases h
theorem Bma : ∀ {l : List At} {s s' : S} {A : Reg} {L : List MD}, Rel Z s σs A L σ w → Br5 s l = some s' → ∃ A' L', Rel Z s' σs A' L' σ w
 | [], s, s', A, L, hr, h => by simp only [Br5, Option.some.injEq] at h; subst h; exact ⟨A, L, hr⟩
 | a :: l, s, s', A, L, hr, h => by
  simp only [Br5] at h
  split at h
  ·rename_i s1 h1
   obtain ⟨A1, L1, hr1⟩ := Bvq hr h1
   exact Bma hr1 h
  ·cases h
theorem Bw7 {lv : List Nat} {co : List At} {s' : S} (hr : Rel Z s σs A L σ w) (h : s.cn lv co = some s') : ∃ A' L', Rel Z s' σs A' L' σ w := by
 unfold S.cn at h
 split at h
 ·rename_i s1 h1
  cases h
  obtain ⟨A1, L1, hr1⟩ := Bma hr h1
  obtain ⟨L', hr2⟩ := Bte hr1 lv
  exact ⟨A1, L', hr2⟩
 ·cases h
end Go.Rx
set_option linter.unusedVariables false
set_option linter.unusedSimpArgs false
namespace Go.Rx
open Go Go.Lv
variable {P : Program} {B B' : Reg} {w w' : World} {L L' : List MD} {s : S} {σs : List Env} {σ : Env} {Z : Fix} {A A' : Reg} {n : Nat} {ops : Array Oper}
variable {R : Type} {r : R} {T : Tab} {inl : Inl R}
def kof (k : K R) : Exit → S → Option R
 | .normal => k.n | .exit id => k.x id | .ret => k.r | _ => fun _ => none
def QK (Z : Fix) (σs : List Env) (k : K R) (r : R) (e : Exit) (σ' : Env) (w' : World) : Prop := ∃ s' A' L', kof k e s' = some r ∧ Rel Z s' σs A' L' σ' w'
theorem Bn2 (an : An) {gl : List (Nat × List Value)} (hI : Aq5 P gl inl) : Aq5 P gl (Bgb an inl) := by
 unfold Bgb
 split
 ·intro Z hZ f as s k r σs A L σ w vs h hr ha
  exact hI Z hZ f as _ k r σs A L σ w vs h (hr.Bmf rfl rfl (An0 hr.mem.sl _)) ha
 ·exact hI
theorem Bwt (hMix : P.follows .mixedOrders = true) (hT : Avp P T Z) (hI : Aq5 P T.gl inl) : ∀ (c : Code) {an : An} {k : K R} {s : S} {A : Reg} {L : List MD} {σ : Env} {w : World}, ex P T inl n c an k s = some r → Rel Z s σs A L σ w → W P n c (QK Z σs k r) σ w := by
 intro c
 induction c with
 | skip => intro an k s A L σ w h hr; exact W.skip ⟨s, A, L, h, hr⟩
 | ret => intro an k s A L σ w h hr; exact W.ret ⟨s, A, L, h, hr⟩
 | exit id => intro an k s A L σ w h hr; exact W.exit ⟨s, A, L, h, hr⟩
 | seq a b iha ihb =>
  intro an k s A L σ w h hr
  refine W.seq (W.mono (iha (an := an.l) (k := { k with n := Bq2 an fun s' => ex P T inl n b an.r k s' }) h hr) ?_)
  rintro e σ' w' ⟨s', A', L', h1, hr'⟩
  cases e with
  | normal =>
   have h2 : Bq2 an (fun s' => ex P T inl n b an.r k s') s' = some r := h1
   unfold Bq2 at h2
   split at h2
   ·split at h2
    ·rename_i s2 hs2
     obtain ⟨A2, L2, hr2⟩ := Bw7 hr' hs2
     exact ihb h2 hr2
    ·cases h2
   ·exact ihb h2 hr'
  | exit id => exact ⟨s', A', L', h1, hr'⟩
  | ret => exact ⟨s', A', L', h1, hr'⟩
  | goto l => exact ⟨s', A', L', h1, hr'⟩
  | panic c => exact ⟨s', A', L', h1, hr'⟩
  | outgrown => exact ⟨s', A', L', h1, hr'⟩
 | cond c a b iha ihb =>
  intro an k s A L σ w h hr
  simp only [ex] at h
  split at h
  ·rename_i t hc
   refine W.cond (Avz hr.mem.sl hc) (fun ht => ?_) (fun ht => ?_)
   ·subst ht; exact iha (by simpa using h) hr
   ·subst ht; exact ihb (by simpa using h) hr
  ·cases h
 | block id a iha =>
  intro an k s A L σ w h hr
  refine W.block (W.mono (iha (an := an.l) (k := { k with x := fun id' s' => Ch (Nat.beq id' id ) (k.n s' ) <| k.x id' s' }) h hr) ?_)
  rintro e σ' w' ⟨s', A', L', h1, hr'⟩
  cases e with
  | exit id' =>
   have h2 : (Ch (Nat.beq id' id ) (k.n s' ) <| k.x id' s') = some r := h1
   simp only [Bgd]
   by_cases hid : id' = id
   ·rw [if_pos hid]
    subst hid
    simp at h2
    exact ⟨s', A', L', h2, hr'⟩
   ·rw [if_neg hid]
    have hb : Nat.beq id' id = false := by
     cases hb : Nat.beq id' id with
     | false => rfl
     | true => exact absurd (Cf hb) hid
    rw [hb] at h2
    exact ⟨s', A', L', h2, hr'⟩
  | normal => exact ⟨s', A', L', h1, hr'⟩
  | ret => exact ⟨s', A', L', h1, hr'⟩
  | goto l => exact ⟨s', A', L', h1, hr'⟩
  | panic c => exact ⟨s', A', L', h1, hr'⟩
  | outgrown => exact ⟨s', A', L', h1, hr'⟩
 | loop a iha =>
  intro an k s A L σ w h hr
  have head : ∀ (q : Nat) (s : S) (A : Reg) (L : List MD) (σ : Env) (w : World), Bdn an (iter an (fun kn s' => ex P T inl n a an.l { k with n := kn } s') q) s = some r → Rel Z s σs A L σ w →
    ∃ s' A' L', iter an (fun kn s' => ex P T inl n a an.l { k with n := kn } s') q s' = some r ∧ Rel Z s' σs A' L' σ w := by
   intro q s A L σ w h hr
   unfold Bdn at h
   split at h
   ·split at h
    ·rename_i s2 hs2
     obtain ⟨A2, L2, hr2⟩ := Bw7 hr hs2
     exact ⟨s2, A2, L2, h, hr2⟩
    ·cases h
   ·cases h
  refine W.loop (fun q σ w => ∃ s A L, iter an (fun kn s' => ex P T inl n a an.l { k with n := kn } s') q s = some r ∧ Rel Z s σs A L σ w) Bm (head _ _ _ _ _ _ h hr) ?_
  rintro q σ w ⟨s, A, L, h, hr⟩
  cases q with
  | zero => cases h
  | succ q =>
   refine W.mono (iha (k := { k with n := Bdn an (iter an (fun kn s' => ex P T inl n a an.l { k with n := kn } s') q) }) h hr) ?_
   rintro e σ' w' ⟨s', A', L', h1, hr'⟩
   cases e with
   | normal => exact ⟨q, Nat.lt_succ_self _, head q s' A' L' σ' w' h1 hr'⟩
   | exit id => exact ⟨s', A', L', h1, hr'⟩
   | ret => exact ⟨s', A', L', h1, hr'⟩
   | goto l => exact ⟨s', A', L', h1, hr'⟩
   | panic c => exact ⟨s', A', L', h1, hr'⟩
   | outgrown => exact ⟨s', A', L', h1, hr'⟩
 | region id ops draw =>
  intro an k s A L σ w h hr
  cases draw with
  | false =>
   obtain ⟨hd, h⟩ := Az (show (Ch (Au6 ops.toList ) (Beo P T (Bgb an inl) n ops ops.toList s k.n ) <| none) = some r from h)
   have h1 := Bgy (ops := ops) hT (Bn2 an hI) hr (show Beo P T (Bgb an inl) n ops ops.toList s k.n = some r from h)
   have hops : ops = ops.toList.toArray := by simp
   rw [hops]
   exact W.region hd (by rw [← hops]; exact h1)
  | true =>
   obtain ⟨hd, h⟩ := Az (show (Ch (Au6 ops.toList ) (exD P T (Bgb an inl) n (Aw3 an) ops ops.size (Ch (Aw3 an ) (#[] ) <| Array.replicate ops.size true) (Array.replicate ops.size false) s k.n ) <| none) = some r from h)
   refine W.Bv7 hd hMix (fun _ => True) (tw (Ch (Aw3 an ) (#[] ) <| Array.replicate ops.size true)) (fun w' hw hg => ?_)
   have hr' : Rel Z s σs A L σ w' := St.Btk hr hw hg
   refine Byi hT (Bn2 an hI) hr' h (fun hm => .inl ?_) (fun _ _ _ => trivial)
   rw [hm]
   simp [Alf, tw]
 | rangeFunc => intro an k s A L σ w h hr; cases h
 | scope => intro an k s A L σ w h hr; cases h
 | label => intro an k s A L σ w h hr; cases h
 | goto => intro an k s A L σ w h hr; cases h
 | refuse => intro an k s A L σ w h hr; cases h
theorem Bpq (hr : Rel Z s σs A L σ w) {v : ResultVar} {p : PV} (h : Bk7 P s v = some p) : ∃ u, Amn P σ w v u ∧ Iw (fun b => A b ∧ Z.R b) w L p u := by
 have hm := hr.mem
 cases v with
 | tmp t =>
  obtain ⟨hp, h⟩ := Az h
  cases h
  exact ⟨σ t, rfl, Aok hm.sl hp⟩
 | cell a t =>
  simp only [Bk7] at h
  split at h
  ·rename_i i p' hsl
   split at h
   ·rename_i T v0 hi
    split at h
    ·rename_i u hu
     obtain ⟨hk, h⟩ := Az h
     cases h
     have hs1 := Vk (t := a) hm.sl
     rw [hsl] at hs1
     obtain ⟨md, b, h1, h2, h3⟩ := Aa8 hs1
     obtain ⟨b', cells, h4, h5⟩ := hm.box hi
     rw [h4] at h1; cases h1; cases h2
     obtain ⟨c1, c2, c3, e, h6, h7⟩ := Aoq hu h5
     have hok := Rz hk
     obtain ⟨d, hd, ha⟩ := hok.agg
     have hlen := h7.len
     cases hA : p.isA with
     | true =>
      refine ⟨.agg c2.toArray, Amn.cells hr (hr.Jv h4) ⟨d, hd, ha.trans hA⟩ hok.size h3 ?_ hlen, by unfold Iw; rw [hA]; exact ⟨c2, rfl, h7⟩⟩
      rw [e, ← h6, ← hlen]; exact Bl9 rfl
     | false =>
      rw [hok.one hA] at hlen
      match c2, hlen with
      | [u], _ => exact ⟨u, Amn.cell hr (hr.Jv h4) ⟨d, hd, ha.trans hA⟩ h3 (by rw [e, ← h6]; simp), by unfold Iw; rw [hA]; exact h7⟩
    ·cases h
   ·cases h
  ·cases h
theorem Aw6 (hr : Rel Z s σs A L σ w) : ∀ {vs : List ResultVar} {ps : List PV}, Awl P s vs = some ps → ∃ us, Aq8 P σ w vs us ∧ EncVs (fun b => A b ∧ Z.R b) w L ps us
 | [], ps, h => by simp only [Awl, Option.some.injEq] at h; subst h; exact ⟨[], trivial, rfl⟩
 | v :: vs, ps, h => by
  simp only [Awl] at h
  split at h
  ·rename_i p ps' hp hps
   cases h
   obtain ⟨u, h1, h2⟩ := Bpq hr hp
   obtain ⟨us, h3, h4⟩ := Aw6 hr hps
   exact ⟨u :: us, ⟨h1, h3⟩, u, us, rfl, h2, h4⟩
  ·cases h
theorem Aq9 : ∀ {as : List PV} {vs : List Value} {m : Nat} {f : Nat → Value}, EncVs B w L as vs → (∀ i v, vs[i]? = some v → f (m + i) = v) → ∀ p ∈ Aer m as, Jt B w L f p.1 p.2
 | [], vs, m, f, _, _, p, hp => by simp [Aer] at hp
 | a :: as, vs, m, f, ⟨v, vs', e, h1, h2⟩, hf, p, hp => by
  subst e
  simp only [Aer] at hp
  rcases List.mem_cons.1 hp with rfl | hp
  ·obtain ⟨k1, k2⟩ := Kk (show Iw B w L a v from h1)
   refine (Jt.iff k1).2 ?_
   have := hf 0 v rfl
   rw [Nat.add_zero] at this
   rw [this]; exact k2
  ·exact Aq9 h2 (fun i v hi => by have := hf (i + 1) v (by simpa using hi); rw [← this]; congr 1; omega) p hp
theorem Bdw {vs : List Value} {i : Nat} {v : Value} (h : vs[i]? = some v) : Ban vs i = v := by simp [Ban, List.getD_eq_getElem?_getD, h]
theorem EncVs.length : ∀ {as : List PV} {vs : List Value}, EncVs B w L as vs → vs.length = as.length
 | [], vs, h => by rw [show vs = [] from h]; rfl
 | a :: as, vs, ⟨v, vs', e, h1, h2⟩ => by rw [e, List.length_cons, EncVs.length h2]; rfl
theorem Bei {f : Nat} {an : An} : ∀ {ans : List (Nat × An)}, Anr.getAn ans f = some an → ∃ a, (f, a) ∈ ans
 | [], h => by simp [Anr.getAn] at h
 | (g, a) :: ans, h => by
  simp only [Anr.getAn] at h
  cases hb : Nat.beq g f with
  | true => have := Cf hb; subst this; exact ⟨a, .head _⟩
  | false => rw [hb] at h; obtain ⟨a', h1⟩ := Bei h; exact ⟨a', .tail _ h1⟩
theorem Bni (hMix : P.follows .mixedOrders = true) (hT : Aqg P T) {ans : List (Nat × An)} (hA : ∀ p ∈ ans, Ent P p.1) : ∀ (q : Nat), Aq5 (R := R) P T.gl (Anr P T q ans)
 | 0 => fun Z hZ f as s k r σs A L σ w vs h hr ha => by cases h
 | q + 1 => fun Z hZ f as s k r σs A L σ w vs h hr ha => by
  have hI := Bni hMix hT hA q
  unfold Anr at h
  split at h
  ·rename_i an fn han hfn
   obtain ⟨a, hmem⟩ := Bei han
   split at h
   ·cases h
   ·rename_i c hc
    obtain ⟨hle, h⟩ := Az h
    refine ⟨hA _ hmem, ?_⟩
    have hr1 : Rel Z ⟨Aer 0 as, s.it, s.sl :: s.st⟩ (σ :: σs) A L (Ban vs) w :=
     Rel.as hr (i := 1) rfl ⟨hr.mem.it, Aq9 ha (fun i v hi => by rw [Nat.zero_add]; exact Bdw hi), hr.mem.sl, hr.mem.stk⟩ rfl
    refine Az7 (rs := fn.results.toList) hfn hc rfl (by simp) (by rw [ha.length]; exact hle) (W.mono (Bwt hMix ⟨hT, hZ⟩ hI c h hr1) ?_)
    rintro e σ' w' ⟨s', A', L', h1, hr'⟩
    have fin : Anr.finK P fn.results.toList k s' = some r → ∃ us, Aq8 P σ' w' fn.results.toList us ∧ ∃ v p s'' A'' L'', Ending.returned (packRes us) = .returned v ∧ k s'' p = some r ∧ Rel Z s'' σs A'' L'' σ w' ∧ p.isV = true ∧ Eg (fun b => A'' b ∧ Z.R b) w' L'' p v := by
     intro h1
     unfold Anr.finK at h1
     split at h1
     ·rename_i ps sl st hps hst
      obtain ⟨us, h2, h3⟩ := Aw6 hr' hps
      obtain ⟨h4, h5⟩ := Bg7 h3
      have hstk := hr'.mem.stk
      rw [hst] at hstk
      exact ⟨us, h2, _, _, _, A', L', rfl, h1, Rel.as hr' (i := 1) rfl ⟨hr'.mem.it, hstk.1, hstk.2⟩ rfl, h4, h5⟩
     ·cases h1
    cases e with
    | normal => exact ⟨.inr rfl, fin h1⟩
    | ret => exact ⟨.inl rfl, fin h1⟩
    | exit id => cases h1
    | goto l => cases h1
    | panic c => cases h1
    | outgrown => cases h1
  ·cases h
end Go.Rx
