/- A part of the proof of a statement of this seat (see the text that ends in Proof): RxCall, RxU, RxBnd, RxOps, RxD, RxCut, RxMain, RxRun, RxPt, RxTab, RxRow. No conditions of its own. -/
import Derived.Test.YticiaelockkfkaaRxA
import Derived.Test.YticiaelockkfkaaLvAll
import Derived.ProofKit
import Derived.LaidMore
set_option linter.unusedVariables false
set_option linter.unusedSimpArgs false
namespace Go.Rx
open Go Go.Lv
variable {P : Program} {B B' : Reg} {w w' : World} {L L' : List MD} {s : S} {σs : List Env} {σ : Env} {Z : Fix} {A A' : Reg} {n : Nat} {ops : Array Oper}
variable {R : Type} {k : S → Option R} {r : R} {d : Option Nat} {ty : TypeId} {pos : String} {after : Array Edge} {T : Tab} {inl : Inl R}

/-- A body walked through where its call stands. -/
def InlOk (P : Program) (gl : List (Nat × List Value)) (inl : Inl R) : Prop := ∀ (Z : Fix), Z.gl = gl → ∀ (f : Nat) (as : List PV) (s : S) (k : S → PV → Option R) (r : R) (σs : List Env) (A : Reg) (L : List MD) (σ : Env) (w : World) (vs : List Value),
  inl f as s k = some r → Rel Z s σs A L σ w → EncVs (fun b => A b ∧ Z.R b) w L as vs → Ent P f ∧ Calls P f vs.toArray w fun e w' => ∃ v p s' A' L', e = .returned v ∧ k s' p = some r ∧ Rel Z s' σs A' L' σ w' ∧ p.isV = true ∧ ValR (fun b => A' b ∧ Z.R b) w' L' p v
def TabOk (P : Program) (T : Tab) : Prop := ∀ f c, T.get f = some c → ConOk P T.gl f c
/-- The contracts, at a call whose package variables are those of the table. -/
def TabZ (P : Program) (T : Tab) (Z : Fix) : Prop := TabOk P T ∧ Z.gl = T.gl
theorem EncVs.step {q : List PV} {vs : List Value} (hb : ∀ b, B b → B' b) (hs : Same B w w') (hl : LeL L L') (h : EncVs B w L q vs) : EncVs B' w' L' q vs := EncC.stepV hb hs hl h
theorem EncVs.append : ∀ {p q : List PV} {us vs : List Value}, EncVs B w L p us → EncVs B w L q vs → EncVs B w L (p ++ q) (us ++ vs)
  | [], q, us, vs, h, h' => by rw [show us = [] from h]; exact h'
  | a :: p, q, us, vs, ⟨v, us', e, h1, h2⟩, h' => ⟨v, us' ++ vs, by rw [e]; rfl, h1, EncVs.append h2 h'⟩
theorem packV_ok {ps : List PV} {us : List Value} (h : EncVs B w L ps us) : (packV ps).isV = true ∧ ValR B w L (packV ps) (packRes us) := by
  match ps, us, h with
  | [], us, h => rw [show us = [] from h]; exact ⟨rfl, [], rfl, rfl⟩
  | [p], us, ⟨v, us', e, h1, h2⟩ =>
    rw [show us' = [] from h2] at e; subst e
    exact encV_valR h1
  | p :: q :: r, us, h =>
    obtain ⟨v, us', e, h1, v2, us2, e2, h2, h3⟩ := h
    subst e2 e
    exact ⟨rfl, v :: v2 :: us2, rfl, v, _, rfl, h1, v2, us2, rfl, h2, h3⟩
/-- The state behind a call with a contract. -/
theorem Rel.afterCall {w' : World} {A1 BX : Reg} {L1 : List MD} {its : List Item} (hr : Rel Z s σs A L σ w) (hBX : ∀ b, BX b → ¬ A b ∧ b < w.heap.size) (hY : Mobs w (fun b => A b ∨ BX b) (L.map MD.mob))
    (hk : KeepN (fun b => ¬ BX b) w w') (hA1 : ∀ b, A1 b → (¬ ¬ BX b ∨ w.heap.size ≤ b) ∧ b < w'.heap.size)
    (hm : Mobs w' (fun b => A1 b ∨ (b < w.heap.size ∧ ¬ BX b)) (L1.map MD.mob)) (hlen : its.length = L1.length)
    (hit : ∀ (i : Nat) (a : Item) (m : MD), its[i]? = some a → L1[i]? = some m → ItemR (fun b => (A b ∨ A1 b) ∧ Z.R b) w' (L ++ L1) a m) :
    Rel Z ⟨s.sl, s.it ++ its, s.st⟩ σs (fun b => A b ∨ A1 b) (L ++ L1) σ w' := by
  have hlt := St.lt hr
  have hsame : Same A w w' := fun b hb => hk.same b (hlt b hb) fun h => (hBX b h).1 hb
  have hmem : MemR (fun b => A b ∧ Z.R b) w' L s σs σ := Fact.step _ (hr.fact 0 (f := encF Z.R L s σs σ) rfl) (fun _ h => h) hsame hk.gr
  have hold : (Fact.old Z.M Z.w0).holds A w' := Fact.step _ (hr.fact 1 (f := .old Z.M Z.w0) rfl) (fun _ h => h) hsame hk.gr
  have hl := LeL.append L L1
  have hst : St (fun b => A b ∨ A1 b) w' [.old Z.M Z.w0] (L1.map MD.mob ++ L.map MD.mob) := by
    refine ⟨fun b hb => hb.elim (fun h => Nat.lt_of_lt_of_le (hlt b h) hk.gr.le) (fun h => (hA1 b h).2), fun f hf => ?_, ?_⟩
    · cases hf with
      | head => exact Fact.step _ hold (fun _ h => .inl h) (fun _ _ => rfl) (.refl _)
      | tail _ h => cases h
    · refine Mobs.append (fun b => b < w.heap.size ∧ ¬ BX b) (fun b hb => Nat.lt_of_lt_of_le hb.1 hk.gr.le) (hm.anti ?_) ?_
      · rintro b ((h | h) | h)
        · exact .inr ⟨hlt b h, fun hx => (hBX b hx).1 h⟩
        · exact .inl h
        · exact .inr h
      · refine (hY.lt.step hk.gr.le fun b hb hn => hk.same b hb fun h => hn (.inl (.inr h))).anti ?_
        rintro b ((h | h) | h)
        · exact .inl (.inl h)
        · rcases (hA1 b h).1 with h | h
          · exact .inl (.inr (Classical.not_not.1 h))
          · exact .inr h
        · by_cases hx : BX b
          · exact .inl (.inr hx)
          · exact .inr (Nat.le_of_not_lt fun hl => h ⟨hl, hx⟩)
  have hb : ∀ b, A b ∧ Z.R b → (A b ∨ A1 b) ∧ Z.R b := fun b h => ⟨.inl h.1, h.2⟩
  refine Rel.as (Mobs.of_perm hst List.perm_append_comm) (i := 0) rfl ⟨⟨?_, ?_⟩, hmem.sl.step hb (fun _ _ => rfl) hl, hmem.stk.step hb (fun _ _ => rfl) hl⟩ (by rw [List.map_append])
  · simp [hmem.it.1, hlen]
  · intro i a m g1 g2
    simp only at g1
    rcases Nat.lt_or_ge i s.it.length with hi | hi
    · rw [List.getElem?_append_left hi] at g1
      rw [List.getElem?_append_left (by rw [← hmem.it.1]; exact hi)] at g2
      exact (hmem.it.2 i a m g1 g2).step hb (fun _ _ => rfl) hl
    · rw [List.getElem?_append_right hi] at g1
      rw [List.getElem?_append_right (by rw [← hmem.it.1]; exact hi)] at g2
      rw [hmem.it.1] at g1
      exact hit _ a m g1 g2
/-- Some parts apart: their blocks. -/
theorem Mobs.split : ∀ {X Y : List Mob} {A : Reg}, Mobs w A (X ++ Y) → ∃ BX : Reg, (∀ b, BX b → ¬ A b ∧ b < w.heap.size) ∧ Mobs w (fun b => ¬ BX b) X ∧ Mobs w (fun b => A b ∨ BX b) Y
  | [], Y, A, h => ⟨fun _ => False, fun b hb => hb.elim, trivial, h.anti fun b hb => hb.elim id fun h => h.elim⟩
  | m :: X, Y, A, ⟨o, h1, h2, h3⟩ => by
    obtain ⟨BX, g1, g2, g3⟩ := Mobs.split h3
    refine ⟨fun b => BX b ∨ o = some b, fun b hb => ?_, ⟨o, h1, fun b hb => ⟨fun h => h (.inr hb), (h2 b hb).2⟩, g2.anti ?_⟩, g3.anti ?_⟩
    · rcases hb with hb | hb
      · exact ⟨fun h => (g1 b hb).1 (.inl h), (g1 b hb).2⟩
      · exact h2 b hb
    · rintro b (hb | hb)
      · exact fun h => hb (.inl h)
      · exact fun h => (g1 b h).1 (.inr hb)
    · rintro b (hb | hb | hb)
      · exact .inl (.inl hb)
      · exact .inr hb
      · exact .inl (.inr hb)
theorem Mobs.memN : ∀ {Y : List Mob} {A : Reg} {i : Nat} {m : Mob}, Mobs w A Y → Y[i]? = some m → ∃ o, m.holds o w ∧ ∀ b, o = some b → ¬ A b
  | _ :: _, A, 0, m, ⟨o, h1, h2, _⟩, h => ⟨o, by simp at h; exact h ▸ h1, fun b hb => (h2 b hb).1⟩
  | _ :: Y, A, i + 1, m, ⟨o, _, _, h3⟩, h => by
    obtain ⟨q, g1, g2⟩ := Mobs.memN h3 (i := i) (by simpa using h)
    exact ⟨q, g1, fun b hb hA => g2 b hb (.inl hA)⟩
theorem dead_holds' {w : World} : MD.dead.mob.holds none w := ⟨none, 0, 0, rfl, by simp, Nat.le_refl _, fun _ => rfl, fun _ => rfl, fun b h => by cases h⟩
theorem elemB_mem {i : Nat} : ∀ {l : List Nat}, elemB i l = true ↔ i ∈ l
  | [] => by simp [elemB]
  | j :: l => by
    simp only [elemB, Bool.or_eq_true, List.mem_cons, elemB_mem (l := l)]
    exact or_congr ⟨nat_beq, fun h => by subst h; simp⟩ Iff.rfl
theorem getIt_map {f : Item → Item} (hf : f .dead = .dead) : ∀ {l : List Item} {i : Nat}, getIt (l.map f) i = f (getIt l i)
  | [], _ => by simp [getIt, hf]
  | _ :: _, 0 => rfl
  | _ :: r, i + 1 => by simpa [getIt] using getIt_map hf (l := r) (i := i)
theorem getIt_set_dead : ∀ {l : List Item} {i j : Nat}, getIt l i = .dead → getIt (setIt l j .dead) i = .dead
  | [], _, _, h => by simpa [setIt] using h
  | _ :: _, 0, 0, _ => rfl
  | _ :: _, 0, j + 1, h => by simpa [setIt, getIt] using h
  | _ :: _, i + 1, 0, h => by simpa [setIt, getIt] using h
  | _ :: r, i + 1, j + 1, h => by simpa [setIt, getIt] using getIt_set_dead (l := r) (i := i) (j := j) (by simpa [getIt] using h)
theorem getIt_set_self : ∀ {l : List Item} {i : Nat}, getIt (setIt l i .dead) i = .dead
  | [], _ => rfl
  | _ :: _, 0 => rfl
  | _ :: r, i + 1 => by simpa [setIt, getIt] using getIt_set_self (l := r) (i := i)
theorem kills_dead {i : Nat} : ∀ {is : List Nat} {s s' : S}, getIt s.it i = .dead → s.kills is = some s' → elemB i is = false
  | [], _, _, _, _ => rfl
  | j :: is, s, s', hd, h => by
    simp only [S.kills] at h
    split at h
    · rename_i s1 h1
      unfold S.kill at h1
      split at h1
      · rename_i E e l hj
        cases h1
        have hij : Nat.beq i j = false := by
          cases hb : Nat.beq i j with
          | false => rfl
          | true => rw [nat_beq hb] at hd; rw [hd] at hj; cases hj
        have : getIt ((s.upd j .dead).sub j .any).it i = .dead := by
          show getIt ((setIt s.it j .dead).map _) i = _
          rw [getIt_map rfl, getIt_set_dead hd]; rfl
        simp [elemB, hij, kills_dead this h]
      · cases h1
    · cases h
/-- Slices that are taken over are gone. -/
theorem kills_ok : ∀ {is : List Nat} {s s' : S} {L : List MD}, MemR B w L s σs σ → (∀ (i z : Nat) (E : TypeId) (v : Value) (c : List Value), L[i]? = some (.own z E v c) → v.oneCell' = true) → s.kills is = some s' →
    ∃ L', MemR B w L' s' σs σ ∧ (is = [] → L' = L) ∧ (∀ j, elemB j is = false → L'[j]? = L[j]?) ∧ ∀ (A : Reg) (X : List Mob), Mobs w A (X ++ L.map MD.mob) → Mobs w A (X ++ (is.map fun i => (L.getD i .dead).mob) ++ L'.map MD.mob)
  | [], s, s', L, hm, _, h => by
    simp only [S.kills, Option.some.injEq] at h; subst h
    exact ⟨L, hm, fun _ => rfl, fun _ _ => rfl, fun A X hX => by simpa using hX⟩
  | i :: is, s, s', L, hm, hone, h => by
    simp only [S.kills] at h
    split at h
    · rename_i s1 h1
      unfold S.kill at h1
      split at h1
      · rename_i E e l hi
        cases h1
        obtain ⟨v, cs, hL, _⟩ := hm.arr hi
        have hf : Frz B w L i .any := ⟨fun z E' u c h => ⟨u, rfl, by rw [hL] at h; cases h; exact hone _ _ _ _ _ hL⟩, rfl, rfl⟩
        have hm2 := hm.subst hf
        have hlt := (List.getElem?_eq_some_iff.1 hL).1
        obtain ⟨L', g1, g2, g3, g4⟩ := kills_ok hm2 (fun j z E v c hj => by
          by_cases hji : j = i
          · subst hji; rw [List.getElem?_set_self hlt] at hj; cases hj
          · rw [List.getElem?_set_ne (Ne.symm hji)] at hj; exact hone _ _ _ _ _ hj) h
        refine ⟨L', g1, (fun e => by cases e), fun j hj => ?_, fun A X hX => ?_⟩
        · simp only [elemB, Bool.or_eq_false_iff] at hj
          rw [g3 j hj.2, List.getElem?_set_ne (fun e => by subst e; simp at hj)]
        · have hmob : (L.map MD.mob)[i]? = some (L.getD i .dead).mob := by simp [hL, List.getD_eq_getElem?_getD]
          have hX1 : Mobs w A (MD.dead.mob :: (L.map MD.mob).eraseIdx i ++ (X ++ [(L.getD i .dead).mob])) := by
            have h1 : Mobs w A (MD.dead.mob :: (X ++ L.map MD.mob)) := ⟨none, dead_holds', fun b hb => (by cases hb), hX.anti fun b hb => hb.elim id fun h => by cases h⟩
            refine h1.perm (.cons _ ?_)
            have hp := (perm_front hmob).symm
            refine (List.Perm.append_left X hp).trans ?_
            rw [show X ++ (L.getD i .dead).mob :: (L.map MD.mob).eraseIdx i = (X ++ [(L.getD i .dead).mob]) ++ (L.map MD.mob).eraseIdx i by simp]
            exact List.perm_append_comm
          have hX2 : Mobs w A ((X ++ [(L.getD i .dead).mob]) ++ (L.set i .dead).map MD.mob) := by
            refine hX1.perm (List.perm_append_comm.trans (List.Perm.append_left _ ?_))
            rw [List.map_set]; exact perm_set hmob
          have := g4 A _ hX2
          have hni : elemB i is = false := kills_dead (s := (s.upd i .dead).sub i .any) (by
            show getIt ((setIt s.it i .dead).map _) i = _
            rw [getIt_map rfl, getIt_set_self]; rfl) h
          have he : (is.map fun j => ((L.set i .dead).getD j .dead).mob) = is.map fun j => (L.getD j .dead).mob := by
            refine List.map_congr_left fun j hj => ?_
            have : j ≠ i := fun e => by
              subst e
              rw [elemB_mem.2 hj] at hni; cases hni
            simp only [List.getD_eq_getElem?_getD, List.getElem?_set_ne (Ne.symm this)]
          rw [he] at this
          simpa using this
      · cases h1
    · cases h
/-- Data without slices do not lean on the memory. -/
theorem EncT.noL : ∀ {e : ET} {x : e.T} {cs : List Value}, e.hasL = false → EncT B w e x cs → EncT B' w' e x cs
  | .int k, x, cs, _, h => h
  | .bool, x, cs, _, h => h
  | .str, x, cs, _, h => h
  | .list e, l, cs, hL, h => by cases hL
  | .vec m e, l, cs, hL, ⟨h1, h2⟩ => ⟨h1, h2.mono fun x c h => EncT.noL (e := e) hL h⟩
  | .cons a q, x, cs, hL, ⟨c1, c2, e, h1, h2⟩ => by
    simp only [ET.hasL, Bool.or_eq_false_iff] at hL
    exact ⟨c1, c2, e, EncT.noL hL.1 h1, EncT.noL hL.2 h2⟩
  | .nil, _, cs, _, h => h
theorem roLabs_nil : ∀ {ls : List (ET × Option TypeId)} {vs : List PV}, owns.go vs = [] → roLabs ls vs = []
  | [], _, _ => by unfold roLabs; rfl
  | _ :: _, [], _ => by unfold roLabs; rfl
  | (e, o) :: ls, v :: vs, h => by
    simp only [owns.go, List.append_eq_nil_iff] at h
    cases o <;> simp [roLabs, h.1, roLabs_nil h.2]
theorem Rel.out (hr : Rel Z s σs A L σ w) {b : Nat} (hb : ¬ A b) : Z.R b := by
  rcases Nat.lt_or_ge b Z.w0.heap.size with hlt | hge
  · have hold := (hr.fact 1 (f := .old Z.M Z.w0) rfl).2 b hlt
    exact Z.mod b (Classical.byContradiction fun hM => hb (hold hM).1)
  · exact Z.new b hge
theorem call_ok {f : Nat} {caps : List PV} {as : Array Operand} {g : Operand} {ts : Array TypeId} {dn : Nat} {G : Prop} (hT : TabZ P T Z) (hI : InlOk P T.gl inl) (hr0 : Rel Z s σs A L σ w) (hg : opn s.sl g = .fn f caps)
    (hd : dstOk n ⟨some dn, .call ⟨.value g, as, ts⟩, ty, pos, after, none⟩ = true) (h : exCall P T inl s (some dn) f caps as.toList k = some r)
    (hG : G → ∃ c, T.get f = some c ∧ noOwn (shL c.ps) = true ∧ (roRes c = false ∨ owns.go (as.toList.map (opn s.sl)) = [])) :
    OpOk P n ops ⟨some dn, .call ⟨.value g, as, ts⟩, ty, pos, after, none⟩ Z s σs k r G A L σ w := by
  obtain ⟨cvs, hgv, hcaps⟩ := valR_fn (opn_eq hr0.mem.sl hg rfl)
  have has : as = as.toList.toArray := by simp
  have hxe : Ent P f → XE P σ w (.call ⟨.value g, as, ts⟩) f (as.toList.map (ev σ) ++ cvs).toArray := fun he => by
    have := X.callv (P := P) (σ := σ) (w := w) (args := as.toList) (ts := ts) he hgv rfl
    rw [← has] at this; exact this
  unfold exCall at h
  split at h
  · rename_i c hc
    have hcon := hT.1 f c hc
    split at h
    · have hc0 : cvs = [] := hcaps
      subst hc0
      split at h
      · cases h
      · rename_i ls0 hls0
        split at h
        · cases h
        · rename_i s1 hs1
          obtain ⟨A1, L1, hr, hsame⟩ : ∃ A1 L1, Rel Z s1 σs A1 L1 σ w ∧ (G → s1 = s ∧ A1 = A ∧ L1 = L) := by
            split at hs1
            · rename_i hro
              obtain ⟨A1, L1, h1, h2⟩ := rel_freezes hr0 hs1
              refine ⟨A1, L1, h1, fun g => h2 ?_⟩
              obtain ⟨c', hc', _, h3⟩ := hG g
              rw [hc] at hc'; cases hc'
              rcases h3 with h3 | h3
              · rw [hro] at h3; cases h3
              · exact roLabs_nil (by rw [owns_flatL hls0]; exact h3)
            · cases hs1; exact ⟨A, L, hr0, fun _ => ⟨rfl, rfl, rfl⟩⟩
          cases hP : allP (as.toList.map (opn s1.sl)) with
          | false => rw [hP] at h; cases h
          | true =>
          rw [hP] at h
          simp only [Bool.not_true, cond_false] at h; try dsimp only [cnd] at h
          split at h
          · cases h
          · rename_i ls hls
            cases hro2 : (roRes c && !(roLabs (shL c.ps) ls).isEmpty) with
            | true => rw [hro2] at h; cases h
            | false =>
            rw [hro2] at h
            dsimp only [cnd, cond] at h
            split at h
            · cases h
            · rename_i x hx
              split at h
              · cases h
              · rename_i is his
                cases hdis : (!((roLabs (shL c.ps) ls).all fun i => !elemB i is)) with
                | true => rw [hdis] at h; cases h
                | false =>
                rw [hdis] at h
                dsimp only [cnd, cond] at h
                split at h
                · cases h
                · rename_i s2 hs2
                  obtain ⟨y, hy, h⟩ := bind_some h
                  change (match shapes c.rs (unpackT (shL c.rs) y s2).1 with | some vs => k ((unpackT (shL c.rs) y s2).2.sets (some dn) (packV vs)) | none => none) = some r at h
                  have hpv := opns_ok hr.mem.sl _ hP
                  have hone : ∀ (i z : Nat) (E : TypeId) (v : Value) (c : List Value), L1[i]? = some (.own z E v c) → v.oneCell' = true := fun i z E v c hi => by
                    obtain ⟨p, len, cap, rfl, _⟩ := hr.own_rd hi; rfl
                  obtain ⟨L2, hm2, hnil, hget, hmobs⟩ := kills_ok hr.mem hone hs2
                  obtain ⟨BX, hBX, hX, hY⟩ := Mobs.split (hmobs A1 [] (by simpa using St.mobs hr))
                  have hr2 : Rel Z s2 σs A1 L2 σ w := Rel.as (h := (⟨St.lt hr, hr.facts, hY.anti fun _ h => .inl h⟩ : St A1 w _ (L2.map MD.mob))) (i := 1) rfl hm2 rfl
                  have hL0 : Mobs w (fun b => ¬ BX b) ((ownMDs L1 (shL c.ps) ls).map MD.mob) := own_mobs (N := fun _ => True) his (by simpa using hX)
                  -- the region that the callee's arguments lie in
                  have key : ∀ R0 : Reg, (∀ b, A1 b ∧ Z.R b → R0 b) → (roLabs (shL c.ps) ls = [] ∨ ∀ b, R0 b) → (roRes c = true → ∀ b, R0 b → A1 b ∧ Z.R b) →
                      OpOk P n ops ⟨some dn, .call ⟨.value g, as, ts⟩, ty, pos, after, none⟩ Z s σs k r G A L σ w := by
                    intro R0 h1 h2 h3
                    have hb1 : ∀ b, A1 b ∧ Z.R b → R0 b ∧ ¬ BX b := fun b hb => ⟨h1 b hb, fun hx => (hBX b hx).1 hb.1⟩
                    obtain ⟨its0, e1, e2, e3, e4⟩ := pack_args (B1 := fun b => R0 b ∧ ¬ BX b) hr hb1 (shL c.ps) ls x is ⟨[], [], []⟩ [] (ownMDs L1 (shL c.ps) ls) hx his (fun i hi z E v cc hLi => by
                      rcases h2 with h2 | h2
                      · rw [h2] at hi; cases hi
                      · have hni : elemB i is = false := by
                          have := hdis
                          simp only [Bool.not_eq_false', List.all_eq_true, Bool.not_eq_true'] at this
                          exact this i hi
                        have hLi2 := (hget i hni).trans hLi
                        obtain ⟨o, g1, g2⟩ := Mobs.memN hY (hr2.mob hLi2)
                        exact (Go.Lv.own_rd g1).step (fun b hb => ⟨h2 b, fun hx => g2 b hb (.inr hx)⟩) (fun _ _ => rfl)) rfl rfl
                    obtain ⟨ps, h5, h6⟩ := flats_shapes hls hpv e3
                    have hit0 : argI c.ps x = its0 := by unfold argI; rw [e1]; rfl
                    have hcall := hcon.ok R0 (fun b => ¬ BX b) w _ _ ps x y h5 (by rw [hit0]; exact e2) (by rw [hit0]; exact e4) hL0 h6 (fun p hp => by
                      obtain ⟨hA, T1, fr, hh⟩ := hr.glob (hT.2 ▸ hp)
                      exact ⟨lt_of_heap hh, fun hx => (hBX _ hx).1 hA.1, T1, fr, hh⟩) hy
                    have hxe' := hxe hcon.ent
                    rw [List.append_nil] at hxe'
                    refine WL.e (dst_lt hd) hxe' hcall ?_
                    rintro e w' ⟨us, rfl, hk, A2, LL, hA2, hm3, hres⟩
                    refine ⟨_, rfl, WL.nil ?_⟩
                    have hnew : ∀ b, A2 b → Z.R b := fun b hb => by
                      rcases (hA2 b hb).1 with h7 | h7
                      · exact hr.out (hBX b (Classical.not_not.1 h7)).1
                      · refine Z.new b ?_
                        have h8 : Z.w0.heap.size ≤ w.heap.size := (hr.fact 1 (f := .old Z.M Z.w0) rfl).1.le
                        omega
                    obtain ⟨ps', its, g1, g2, g3, g4, g5⟩ := hres s2 L2 (fun b => (A1 b ∨ A2 b) ∧ Z.R b) hr2.len.symm (fun b hb => ⟨.inr hb, hnew b hb⟩) (fun hro b hb => by
                      rcases hb with hb | ⟨p, hp, rfl⟩
                      · exact ⟨.inl (h3 hro b hb.1).1, (h3 hro b hb.1).2⟩
                      · exact ⟨.inl (hr.glob (hT.2 ▸ hp)).1.1, (hr.glob (hT.2 ▸ hp)).1.2⟩)
                    have hr' := Rel.afterCall hr2 hBX hY hk hA2 hm3 g4 g5
                    obtain ⟨hv, hv'⟩ := packV_ok g3
                    rw [g2] at h
                    refine ⟨_, fun b => A1 b ∨ A2 b, L2 ++ LL, h, ?_, fun gg => ?_⟩
                    · rw [g1]; exact hr'.sets (d := some dn) hv hv'
                    · obtain ⟨e1', e2', e3'⟩ := hsame gg
                      obtain ⟨c', hc', hno, _⟩ := hG gg
                      rw [hc] at hc'; cases hc'
                      have his0 := consume_none hno his
                      subst his0
                      have hs12 : s1 = s2 := by simpa [S.kills] using hs2
                      have hL12 := hnil rfl
                      subst hs12 hL12 e1' e2' e3'
                      rw [g1]
                      exact ⟨fun b hb => .inl hb, fun b hb => hk.same b (St.lt hr b hb) fun hx => (hBX b hx).1 hb, ⟨LL, rfl⟩, ⟨its, rfl⟩⟩
                  cases hro' : roRes c with
                  | true =>
                    refine key (fun b => A1 b ∧ Z.R b) (fun _ h => h) (.inl ?_) (fun _ _ h => h)
                    rw [hro'] at hro2
                    simp only [Bool.true_and, Bool.not_eq_false'] at hro2
                    exact isEmpty_nil hro2
                  | false => exact key (fun _ => True) (fun _ _ => trivial) (.inr fun _ => trivial) (fun h => by rw [hro'] at h; cases h)
    · cases h
  · rename_i hn
    obtain ⟨hP, h⟩ := bif_some h
    have hpv := EncVs.append (opns_ok hr0.mem.sl _ hP) hcaps
    obtain ⟨he, hcall⟩ := hI Z hT.2 f _ s _ r σs A L σ w _ h hr0 hpv
    refine WL.e (dst_lt hd) (hxe he) hcall ?_
    rintro e w' ⟨v, p, s', A', L', rfl, hk, hr', hv, hv'⟩
    refine ⟨_, rfl, WL.nil ⟨_, A', L', hk, hr'.sets (d := some dn) hv hv', fun gg => ?_⟩⟩
    obtain ⟨c, hc, _⟩ := hG gg
    rw [hn] at hc; cases hc
end Go.Rx

set_option linter.unusedVariables false
set_option linter.unusedSimpArgs false
namespace Go.Rx
open Go Go.Lv
variable {P : Program} {B B' : Reg} {w w' : World} {L L' : List MD} {s : S} {σs : List Env} {σ : Env} {Z : Fix} {A A' : Reg} {n : Nat} {ops : Array Oper}
variable {R : Type} {k : S → Option R} {r : R} {d : Option Nat} {ty : TypeId} {pos : String} {after : Array Edge} {T : Tab} {inl : Inl R}

theorem WL_mono {l : List Oper} {K K' : Env → World → Prop} (h : WL P n ops l K σ w) (hk : ∀ σ w, K σ w → K' σ w) : WL P n ops l K' σ w := by
  have := WL.cut (rest := []) K l h (fun σ w h => WL.nil (hk σ w h))
  rwa [List.append_nil] at this
theorem set_sets {dn : Nat} {p : PV} : s.set dn p = s.sets (some dn) p := rfl
theorem const_agg {cs : Array Value} {v : PV} (h : parseV P ty (.agg cs) = some v) (hA : v.isA = true) : v.isV = true ∧ ValR B w L v (.agg cs) := by
  have h1 := parseV_enc (B := B) (w := w) (L := L) h
  have h2 : EncV B w L v (.agg cs) := by
    unfold EncV; rw [hA]
    exact ⟨cs.toList, by simp, h1⟩
  exact encV_valR h2
theorem both_ok {a : Option R} : ∀ {l : List (Option R)}, both a l = some r → a = some r ∧ ∀ b ∈ l, b = some r
  | [], h => ⟨h, by simp⟩
  | b :: l, h => by
    unfold both at h
    split at h
    · rename_i hab
      obtain ⟨h1, h2⟩ := both_ok h
      exact ⟨h1, fun c hc => by
        rcases List.mem_cons.1 hc with rfl | hc
        · exact hab ▸ h1
        · exact h2 c hc⟩
    · cases h
theorem nilb_ok {α : Type} {l : List α} {a b : Option R} (h : nilb l a b = some r) : b = some r ∧ (l = [] → a = some r) := by
  cases l with
  | nil =>
    obtain ⟨h1, h2⟩ := both_ok h
    exact ⟨h2 _ (.head _), fun _ => h1⟩
  | cons x l => exact ⟨h, fun e => by cases e⟩
theorem nilAsk_ok {o : BinOp} {t e t' : TypeId} {x y : Operand} {q : Bool} {p : Option Addr} {l c : Nat} (h : nilAsk o = some q) (ht : P.underlying t = some (.slice e)) (hx : ev σ x = .slice p l c) (hy : ev σ y = .slice none 0 0) :
    XO P σ w (.binOp o t x y t') (.bool (p.isNone == q)) := by
  cases o <;> simp only [nilAsk, Option.some.injEq, reduceCtorEq] at h <;> subst h
  · have := X.bin (w := w) (t' := t') hx hy (Bin.nil_eql ht p l c)
    simpa using this
  · have := X.bin (w := w) (t' := t') hx hy (Bin.nil_neq ht p l c)
    cases p <;> simpa using this
theorem elem_nil {B : Reg} {e : ET} {l : List e.T} (hz : Nat.ble 1 e.size = true) (h : AllR (EncT B w e) l []) : l = [] := by
  have h1 := AllR.len (fun x c h => EncT.len h) h
  have h2 : 1 ≤ e.size := by simpa using hz
  cases l with
  | nil => rfl
  | cons a l =>
    simp only [List.length_cons, List.length_nil] at h1
    have : 0 < (l.length + 1) * e.size := Nat.mul_pos (by omega) (by omega)
    omega
theorem exNil_ok {o : BinOp} {t t' : TypeId} {x y : Operand} {a : PV} {dn : Nat} {G : Prop} (hr : Rel Z s σs A L σ w) (hd : dstOk n ⟨some dn, .binOp o t x y t', ty, pos, after, none⟩ = true) (hx : opn s.sl x = a) (hy : opn s.sl y = .nils)
    (h : exNil P s dn o t a k = some r) : OpOk P n ops ⟨some dn, .binOp o t x y t', ty, pos, after, none⟩ Z s σs k r G A L σ w := by
  have hm := hr.mem
  have hy' := valR_nils (opn_eq hm.sl hy rfl)
  unfold exNil at h
  split at h
  · rename_i q e hq ht
    -- a slice of a list
    have main : ∀ {α : Type} {l : List α} {p : Option Addr} {len c : Nat}, ev σ x = .slice p len c → (p = none → l = []) → nilb l (k (s.set dn (.b q))) (k (s.set dn (.b (!q)))) = some r → OpOk P n ops ⟨some dn, .binOp o t x y t', ty, pos, after, none⟩ Z s σs k r G A L σ w := by
      intro α l p len c hv hp h
      obtain ⟨h1, h2⟩ := nilb_ok h
      cases hn : p.isNone with
      | true => 
        have hk := h2 (hp (by simpa using hn))
        have hxo := nilAsk_ok (w := w) (t' := t') hq ht hv hy'
        rw [hn] at hxo
        have hb : (true == q) = q := by cases q <;> rfl
        rw [hb] at hxo
        exact post_val (p := .b q) hr hd hxo rfl rfl hk
      | false =>
        have hxo := nilAsk_ok (w := w) (t' := t') hq ht hv hy'
        rw [hn] at hxo
        have hb : (false == q) = !q := by cases q <;> rfl
        rw [hb] at hxo
        exact post_val (p := .b (!q)) hr hd hxo rfl rfl h1
    split at h
    · have hv := valR_nils (opn_eq hm.sl hx rfl)
      have hxo := nilAsk_ok (w := w) (t' := t') hq ht hv hy'
      have hb : ((none : Option Addr).isNone == q) = q := by cases q <;> rfl
      rw [hb] at hxo
      exact post_val (p := .b q) hr hd hxo rfl rfl h
    · split at h
      · obtain ⟨hz, h⟩ := bif_some h
        obtain ⟨c0, h1, h2⟩ := valR_list (opn_eq hm.sl hx rfl)
        have h1' := h1
        obtain ⟨p, len, cap, hv, h3, h4, h5, h6⟩ := h1
        refine main hv (fun hp => ?_) h
        subst hp
        have : c0 = [] := Go.Lv.Rd.none_nil (by rw [← hv]; exact h1')
        subst this
        have := h5 rfl
        exact elem_nil hz h2
      · cases h
    · rename_i i
      split at h
      · rename_i E e' l hi
        obtain ⟨hz, h⟩ := bif_some h
        obtain ⟨v, cs, h1, h2⟩ := hm.arr hi
        obtain ⟨z, E', c0, h3⟩ := valR_own (opn_eq hm.sl hx rfl)
        rw [h1] at h3
        cases h3
        have hrd := hr.own_rd h1
        have h1' := hrd
        obtain ⟨p, len, cap, hv, h4, h5, h6, h7⟩ := hrd
        refine main hv (fun hp => ?_) h
        subst hp
        have : cs = [] := Go.Lv.Rd.none_nil (by rw [← hv]; exact h1')
        subst this
        exact elem_nil hz h2
      · cases h
    · cases h
  · cases h
/-! ### copying -/
theorem store_core {i b off : Nat} {md : MD} {ns : List Value} {F : List Fact} (hr : St A w F (L.map MD.mob)) (h : L[i]? = some md) (hb : md.base = some b) (h1 : ns.all (·.oneCell') = true) (hle : off + ns.length ≤ md.cells.length) (hz : 0 < ns.length) :
    ∃ w' md', (storeCells ⟨b, off, none⟩ ns).run P w = .ok () w' ∧ St A w' F ((L.map MD.mob).set i md'.mob) ∧ storedMD off ns md md' := by
  cases md with
  | dead => cases hb
  | box b' cells T =>
    cases hb
    have hL : (L.map MD.mob)[i]? = some (Mob.box b cells T) := mob_at h
    have hr' := run_storeCells_blk (P := P) b T (0, 0) ns off 0 cells w (hr.box hL) (by simpa [MD.cells] using hle) (.inr (.inr (Nat.le_refl _))) (fun v hv => by simpa using List.all_eq_true.1 h1 v hv)
    simp only [Nat.add_zero] at hr'
    exact ⟨_, .box b (splice cells off ns) T, hr', hr.setBox hL, rfl⟩
  | own z' E u cs =>
    obtain ⟨b', m, c, hu, hs'⟩ := St.reveal hr (mob_at h) (by simp [MD.cells] at hle; omega)
    subst hu
    cases hb
    have hlen : i < (L.map MD.mob).length := by simpa using (List.getElem?_eq_some_iff.1 h).1
    have hL : ((L.map MD.mob).set i (.at_ b z' E m c cs))[i]? = some (.at_ b z' E m c cs) := by rw [List.getElem?_set_self hlen]
    have hle' : off + ns.length ≤ cs.length := hle
    have hcore : ∃ w', (storeCells ⟨b, off, none⟩ ns).run P w = .ok () w' ∧ St A w' F (((L.map MD.mob).set i (.at_ b z' E m c cs)).set i (.at_ b z' E m c (splice cs off ns))) := by
      obtain ⟨o, ho, _, _⟩ := (hs'.front hL).mobs
      obtain ⟨rfl, ho⟩ := ho
      have ho' := ho
      obtain ⟨_, len, cap, e, h3, h4, h5, h5', h6⟩ := ho
      cases e
      obtain ⟨arr, fr, e, hbb, hsz', hfz, hcells⟩ := h6 b rfl
      have hcl : cs.length ≤ arr.size := by rw [h3, hsz']; exact Nat.mul_le_mul_right _ h4
      have hr' := run_storeCells_blk (P := P) b E fr ns off 0 arr.toList w (by simpa using hbb) (by simp; omega) (by simp; rcases hfz with h | h; exact .inr (.inr (Nat.le_of_eq h.symm)); exact .inr (.inl h)) (fun v hv => by simpa using List.all_eq_true.1 h1 v hv)
      simp only [Nat.add_zero] at hr'
      have hbl := lt_of_heap hbb
      have hcs' : (splice cs off ns).length = cs.length := splice_length (by omega)
      have hget : ∀ i, i < m * z' → (splice arr.toList off ns)[i]? = (splice cs off ns)[i]? := fun i hi => by
        have hmin1 : min off arr.toList.length = off := by simp; omega
        have hmin2 : min off cs.length = off := by omega
        simp only [splice, List.getElem?_append, List.length_take, hmin1, hmin2, List.getElem?_take, List.getElem?_drop]
        by_cases g1 : i < off
        · rw [if_pos g1, if_pos g1, if_pos g1, if_pos g1]; simpa using hcells i hi
        · rw [if_neg g1, if_neg g1]
          by_cases g2 : i - off < ns.length
          · rw [if_pos g2, if_pos g2]
          · rw [if_neg g2, if_neg g2]
            have e1 : off + ns.length + (i - off - ns.length) = i := by omega
            rw [e1]; simpa using hcells i hi
      refine ⟨_, hr', hs'.setMobAt hL (b := b) ⟨rfl, ho'⟩ ⟨rfl, _, m, c, rfl, by rw [hcs', h3], h4, h5, h5', fun b' hb' => ?_⟩ ?_⟩
      · cases hb'
        refine ⟨(splice arr.toList off ns).toArray, fr, rfl, by simp [setBlk, hbl], ?_, ?_, fun i hi => ?_⟩
        · simp only [List.size_toArray]; rw [splice_length (by simp; omega)]; simpa using hsz'
        · simp only [List.size_toArray]; rw [splice_length (by simp; omega)]; simpa using hfz
        · simpa using hget i hi
      · rintro ⟨q, hq, q1, q2⟩
        exact ⟨q, hq, q1, q2, hq.1⟩
    obtain ⟨w', g1, g2⟩ := hcore
    have hs3 := g2.hide (i := i) (b := b) (s := z') (m := m) (c := c) (E := E) (cs := splice cs off ns) (by rw [List.getElem?_set_self (by simpa using hlen)])
    rw [List.set_set, List.set_set] at hs3
    exact ⟨w', .own z' E (.slice (some ⟨b, 0, none⟩) m c) (splice cs off ns), g1, hs3, rfl⟩
structure SrcW (P : Program) (w : World) (vy : Value) (z ly : Nat) (ys : List Value) : Prop where
  len : (Builtin.lenOf vy).run P w = .ok ly w
  first : ∀ m, m ≤ ly → (Builtin.firstCells z m vy).run P w = .ok (ys.take (m * z)).toArray w
theorem SrcW.rd {vy : Value} {z ly : Nat} {ys : List Value} (h : Rd (fun _ => True) w z vy ys) (hl : ys.length = ly * z) (hz : 0 < z) : SrcW P w vy z ly ys := by
  obtain ⟨p, len, cap, rfl, h2, h3, h4, h5⟩ := h
  have he : len = ly := Nat.eq_of_mul_eq_mul_right hz (h2.symm.trans hl)
  subst he
  refine ⟨rfl, fun m hm => ?_⟩
  cases p with
  | none =>
    have : m = 0 := by have := h4 rfl; omega
    subst this
    simp [Builtin.firstCells]
  | some a =>
    have hlen : (ys.take (m * z)).length = m * z := by
      rw [List.length_take, h2]
      have := Nat.mul_le_mul_right z hm
      omega
    simp only [Builtin.firstCells]
    by_cases hc : 0 < cap
    · obtain ⟨b, off, arr, T, fr, e1, _, e2, _, e4⟩ := h5 hc
      cases e1
      have := run_loadCells_of (P := P) (w := w) (b := b) (off := off) (ys.take (m * z)) (fun i hi => by
        rw [hlen] at hi
        have h6 : i < len * z := Nat.lt_of_lt_of_le hi (Nat.mul_le_mul_right z hm)
        rw [cell_of e2, e4 i h6, List.getElem?_take, if_pos hi])
      rw [hlen] at this
      exact this
    · have : m = 0 := by omega
      subst this
      simp [loadCells, loadCellsFrom]
theorem SrcW.str {l : List UInt8} : SrcW P w (sv l) 1 l.length (encL (k := .u8) l) := by
  refine ⟨by simp [Builtin.lenOf, ByteArray.size], fun m hm => ?_⟩
  simp only [Builtin.firstCells, ba_extract, Sem.run_pure]
  congr 1
  simp [encL, List.map_take]
  rfl
theorem srcC_ok {e : ET} {t2 : TypeId} {y : Operand} {m : List e.T} (hr : Rel Z s σs A L σ w) (hz : 0 < e.size) (h : srcC P s e t2 y = some m) : ∃ ys, AllR (EncT (fun b => A b ∧ Z.R b) w e) m ys ∧ SrcW P w (ev σ y) e.size m.length ys := by
  have hm := hr.mem
  have plain : elems s e (opn s.sl y) = some m → ∃ ys, AllR (EncT (fun b => A b ∧ Z.R b) w e) m ys ∧ SrcW P w (ev σ y) e.size m.length ys := by
    intro h
    have hV : (opn s.sl y).isV = true := by
      cases hq : (opn s.sl y).isV with
      | true => rfl
      | false => rcases isV_false hq with h' | h' | ⟨_, _, _, h'⟩ <;> rw [h'] at h <;> cases h
    obtain ⟨c0, h1, h2⟩ := elems_rd hm h (opn_ok hm.sl y hV)
    have hrd : Rd (fun _ => True) w e.size (ev σ y) c0 := by
      rcases h2 with h2 | ⟨j, E', u, cs', _, h2, hpart⟩
      · exact h2.step (fun _ _ => trivial) (fun _ _ => rfl)
      · exact hpart _ _ (hr.own_rd h2)
    exact ⟨c0, h1, .rd hrd (h1.len fun x c h => EncT.len h) hz⟩
  unfold srcC at h
  split at h
  · split at h
    · rename_i m0 hy
      unfold cast? at h
      split at h
      · rename_i he
        cases he
        cases h
        rw [opn_str hm.sl hy]
        exact ⟨encL m0, s2b_ok.encL_all, .str⟩
      · cases h
    · cases h
  · unfold elemsB at h
    split at h
    · rename_i i p e1 lo n' hy
      split at h
      · rename_i T v hi
        split at h
        · rename_i a x hg
          split at h
          · rename_i q a l
            obtain ⟨hb, h⟩ := bif_some h
            simp only [Bool.and_eq_true, decide_eq_true_eq] at hb
            obtain ⟨⟨k1, k2, k3⟩, rfl⟩ := hb
            split at h
            · rename_i ha
              subst ha
              cases h
              obtain ⟨md, v1, h3, h4, g1, g2, ⟨pt, cap, g3, g4, g5, g6⟩, _⟩ := opn_eq hm.sl hy rfl
              have h6 : ev σ y = v1 := by simpa using h4
              obtain ⟨b, cells, h7, h8⟩ := hm.box hi
              rw [h7] at h3; cases h3
              obtain ⟨c1, c2, c3, he, h9, h10, h11⟩ := getF_ok hg h8
              have hlen2 := h11.len fun x c h => EncT.len h
              obtain ⟨lo', rfl⟩ := Int.eq_ofNat_of_zero_le k1
              obtain ⟨n1, rfl⟩ := Int.eq_ofNat_of_zero_le k2
              simp only [Int.toNat_natCast] at g3 g4 g6
              have hq : lo' + n1 ≤ l.length := by rw [h10]; omega
              have hsub : (subL l lo' n1).length = n1 := by simp [subL]; omega
              have e5 : lo' * a.size + n1 * a.size ≤ l.length * a.size := by rw [← Nat.add_mul]; exact Nat.mul_le_mul_right _ hq
              refine ⟨(c2.drop (lo' * a.size)).take (n1 * a.size), AllR.take (fun x c h => EncT.len h) _ (AllR.drop (fun x c h => EncT.len h) _ h11), ?_, fun m hm' => ?_⟩
              · rw [h6, g3, hsub]; rfl
              · rw [hsub] at hm'
                rw [h6, g3]
                have hml : m * a.size ≤ n1 * a.size := Nat.mul_le_mul_right _ hm'
                cases pt with
                | none =>
                  have : m = 0 := by have := g5 rfl; omega
                  subst this
                  simp [Builtin.firstCells]
                | some ad =>
                  simp only [Builtin.firstCells]
                  by_cases hc : 0 < cap
                  · obtain ⟨bb, e1, e2⟩ := g6 hc
                    cases e1
                    cases e2
                    have hlen3 : (((c2.drop (lo' * a.size)).take (n1 * a.size)).take (m * a.size)).length = m * a.size := by
                      simp only [List.length_take, List.length_drop, hlen2]; omega
                    have := run_loadCells_of (P := P) (w := w) (b := b) (off := pathOff p + lo' * a.size) (((c2.drop (lo' * a.size)).take (n1 * a.size)).take (m * a.size)) (fun i hi => by
                      rw [hlen3] at hi
                      have hcl : pathOff p + lo' * a.size + i < (MD.box b cells T).cells.length := by
                        simp only [MD.cells, he, List.length_append, h9, hlen2]; omega
                      rw [hr.cells h7 rfl _ hcl]
                      simp only [MD.cells]
                      rw [he, List.getElem?_append_right (by omega), h9, show pathOff p + lo' * a.size + i - pathOff p = lo' * a.size + i by omega, List.getElem?_append_left (by rw [hlen2]; omega),
                        List.getElem?_take, if_pos hi, List.getElem?_take, if_pos (by omega), List.getElem?_drop])
                    rw [hlen3] at this
                    exact this
                  · have : m = 0 := by omega
                    subst this
                    simp [loadCells, loadCellsFrom]
            · cases h
          · cases h
        · cases h
      · cases h
    · exact plain h
  · cases h
theorem splice_nil' (cs : List Value) (o : Nat) : splice cs o [] = cs := by simp [splice]
/-- The run of a copy. -/
theorem copy_run {t t2 E : TypeId} {vx vy : Value} {z ly nv capv off i : Nat} {pt : Option Addr} {ys : List Value} {md : MD} {F : List Fact} (ht : P.underlying t = some (.slice E)) (hsz : SizeIs P E z) (hsrc : SrcW P w vy z ly ys) (hys : ys.length = ly * z) (h1 : ys.all (·.oneCell') = true)
    (hr : St A w F (L.map MD.mob)) (h : L[i]? = some md) (hne : md ≠ .dead) (hx : vx = .slice pt nv capv) (hcap : nv ≤ capv) (hpt : pt = none → capv = 0) (hb : 0 < capv → ∃ b, md.base = some b ∧ pt = some ⟨b, off, none⟩) (hle : off + nv * z ≤ md.cells.length) (hz : 0 < z) :
    ∃ w' md', (Builtin.copy_ #[t, t2] ty #[vx, vy]).run P w = .ok (goInt (Nat.min ly nv)) w' ∧ St A w' F ((L.map MD.mob).set i md'.mob) ∧ storedMD off (ys.take (nv * z)) md md' := by
  subst hx
  have hmin : Nat.min ly nv ≤ ly := Nat.min_le_left _ _
  have hfirst := hsrc.first _ hmin
  have htake : ys.take (Nat.min ly nv * z) = ys.take (nv * z) := by
    rcases Nat.le_total ly nv with h' | h'
    · rw [show Nat.min ly nv = ly from Nat.min_eq_left h', ← hys, List.take_length, List.take_of_length_le (by rw [hys]; exact Nat.mul_le_mul_right z h')]
    · rw [show Nat.min ly nv = nv from Nat.min_eq_right h']
  rw [htake] at hfirst
  have hmul : Nat.min ly nv * z ≤ nv * z := Nat.mul_le_mul_right z (Nat.min_le_right _ _)
  have hlen : (ys.take (nv * z)).length = Nat.min ly nv * z := by
    rw [← htake, List.length_take, hys]
    have := Nat.mul_le_mul_right z hmin
    omega
  have hnone : (ys.take (nv * z)) = [] → ∃ w' md', (Builtin.copy_ #[t, t2] ty #[.slice pt nv capv, vy]).run P w = .ok (goInt (Nat.min ly nv)) w' ∧ St A w' F ((L.map MD.mob).set i md'.mob) ∧ storedMD off (ys.take (nv * z)) md md' := by
    intro he
    refine ⟨w, md, ?_, ?_, ?_⟩
    · rw [he] at hfirst
      cases pt <;> simp [Builtin.copy_, run_underlying ht, hsrc.len, run_sizeOf_of hsz, hfirst, storeCells]
    · rw [List.getElem?_eq_some_iff] at h
      obtain ⟨hlt, h⟩ := h
      have : (L.map MD.mob).set i md.mob = L.map MD.mob := by
        rw [← List.map_set, ← h, List.set_getElem_self]
      rw [this]; exact hr
    · rw [he]
      cases md with
      | dead => exact absurd rfl hne
      | box b c T => simp only [storedMD, splice_nil']
      | own z' E' v c => simp only [storedMD, splice_nil']
  by_cases he : (ys.take (nv * z)) = []
  · exact hnone he
  · have hpos : 0 < (ys.take (nv * z)).length := List.length_pos_iff.2 he
    have hm0 : 0 < Nat.min ly nv := by
      rcases Nat.eq_zero_or_pos (Nat.min ly nv) with h' | h'
      · rw [hlen, h'] at hpos; simp at hpos
      · exact h'
    have hnv : 0 < nv := Nat.lt_of_lt_of_le hm0 (Nat.min_le_right _ _)
    obtain ⟨b, e1, e2⟩ := hb (by omega)
    subst e2
    obtain ⟨w', md', g1, g2, g3⟩ := store_core (P := P) (off := off) hr h e1 (ns := ys.take (nv * z)) (List.all_eq_true.2 fun v hv => List.all_eq_true.1 h1 v (List.mem_of_mem_take hv)) (by rw [hlen]; omega) hpos
    refine ⟨w', md', ?_, g2, g3⟩
    simp [Builtin.copy_, run_underlying ht, hsrc.len, run_sizeOf_of hsz, hfirst, g1]
theorem copyN_eq (nv k : Nat) : copyN (nv : Int) k = ((Nat.min k nv : Nat) : Int) := by
  unfold copyN
  rcases Nat.lt_or_ge k nv with h | h
  · rw [if_pos (by omega), show Nat.min k nv = k from Nat.min_eq_left (by omega)]
  · rw [if_neg (by omega), show Nat.min k nv = nv from Nat.min_eq_right h]
theorem copyAt_enc {B : Reg} {e : ET} {l m : List e.T} {cs ys : List Value} {lo nv : Nat} (hl : AllR (EncT B w e) l cs) (hm : AllR (EncT B w e) m ys) : AllR (EncT B w e) (copyAt l lo nv m) (splice cs (lo * e.size) (ys.take (nv * e.size))) := by
  have h1 := AllR.take (fun x c h => EncT.len h) nv hm
  have h2 := h1.len fun x c h => EncT.len h
  have h3 := AllR.take (fun x c h => EncT.len h) lo hl
  have h4 := AllR.drop (fun x c h => EncT.len h) (lo + (m.take nv).length) hl
  unfold copyAt splice
  simp only [Int.toNat_natCast]
  refine AllR.append h3 (AllR.append h1 ?_)
  rw [h2, ← Nat.add_mul]
  exact h4
theorem copyL_eq {α : Type} (l m : List α) : copyL l m = copyAt l ((0 : Nat) : Int) ((l.length : Nat) : Int) m := by
  unfold copyL copyAt
  simp only [Int.toNat_natCast, List.take_zero, List.nil_append, Nat.zero_add, List.length_take]
  congr 1
  rcases Nat.le_total m.length l.length with h | h
  · rw [Nat.min_eq_right h]
  · rw [Nat.min_eq_left h, List.drop_of_length_le (Nat.le_refl _), List.drop_of_length_le h]
theorem copy_own {t t2 E E' : TypeId} {x y : Operand} {e : ET} {l m : List e.T} {ys cs : List Value} {u : Value} {lo nv capv i : Nat} {pt : Option Addr} {ow : Option Nat} (hr : Rel Z s σs A L σ w) (hd : dstOk n ⟨ow, .call ⟨.builtin .copy, #[x, y], #[t, t2]⟩, ty, pos, after, none⟩ = true)
    (ht : P.underlying t = some (.slice E)) (hsz : SizeIs P E e.size) (hz : 0 < e.size) (hit : getIt s.it i = .arr E' e l) (hL : L[i]? = some (.own e.size E' u cs)) (hl : AllR (EncT (fun b => A b ∧ Z.R b) w e) l cs) (hm : AllR (EncT (fun b => A b ∧ Z.R b) w e) m ys) (hsrc : SrcW P w (ev σ y) e.size m.length ys)
    (hx : ev σ x = .slice pt nv capv) (hcap : nv ≤ capv) (hpt : pt = none → capv = 0) (hb : 0 < capv → ∃ b, (MD.own e.size E' u cs).base = some b ∧ pt = some ⟨b, lo * e.size, none⟩) (hle : lo + nv ≤ l.length)
    (hk : k ((s.upd i (.arr E' e (copyAt l lo nv m))).sets ow (.i .i64 (copyN (nv : Int) m.length))) = some r) : OpOk P n ops ⟨ow, .call ⟨.builtin .copy, #[x, y], #[t, t2]⟩, ty, pos, after, none⟩ Z s σs k r False A L σ w := by
  have hcl := hl.len fun x c h => EncT.len h
  have hyl := hm.len fun x c h => EncT.len h
  have hF := St.addF (f := rootF Z.R L (.arr E' e (copyAt l lo nv m)) (splice cs (lo * e.size) (ys.take (nv * e.size)))) hr (copyAt_enc hl hm)
  obtain ⟨w', md', g1, g2, g3⟩ := copy_run (P := P) (ty := ty) (t2 := t2) (off := lo * e.size) ht hsz hsrc hyl hm.allOne hF hL (by intro h; cases h) rfl hcap hpt hb (by
    show lo * e.size + nv * e.size ≤ cs.length
    rw [hcl, ← Nat.add_mul]; exact Nat.mul_le_mul_right _ hle) hz
  simp only [storedMD] at g3
  subst g3
  have key := LeL.own (cs' := splice cs (lo * e.size) (ys.take (nv * e.size))) hL
  have hr2 := Rel.change (a := .arr E' e (copyAt l lo nv m)) g2.dropF hL key ⟨rfl, rfl, g2.fact 0 rfl⟩
  refine WL.valO (v := goInt (Nat.min m.length nv)) rfl hd ?_ (WL.nil ⟨_, A, _, hk, hr2.sets rfl ?_, fun h => h.elim⟩)
  · simp [execOp, resolve, invoke, builtin, hx, g1]
  · rw [copyN_eq]; rfl
theorem copy_ok {t t2 : TypeId} {x y : Operand} {ow : Option Nat} (hr : Rel Z s σs A L σ w) (hd : dstOk n ⟨ow, .call ⟨.builtin .copy, #[x, y], #[t, t2]⟩, ty, pos, after, none⟩ = true)
    (h : exCopy P s ow x y t t2 k = some r) : OpOk P n ops ⟨ow, .call ⟨.builtin .copy, #[x, y], #[t, t2]⟩, ty, pos, after, none⟩ Z s σs k r False A L σ w := by
  have hmm := hr.mem
  unfold exCopy at h
  split at h
  · cases h
  · rename_i E hE
    have ht := plainE_ok hE
    split at h
    · cases h
    · rename_i inf hinf
      split at h
      · rename_i i hx
        split at h
        · rename_i E' e l hit
          obtain ⟨hb, h⟩ := bif_some h
          simp only [Bool.and_eq_true] at hb
          have hz : 0 < e.size := by have := Nat.le_of_ble_eq_true hb.2; omega
          split at h
          · rename_i m hsrc
            obtain ⟨ys, h1, h2⟩ := srcC_ok hr hz hsrc
            obtain ⟨u, cs, h3, h4⟩ := hmm.arr hit
            obtain ⟨z', E2, c', h5⟩ := valR_own (opn_eq hmm.sl hx rfl)
            rw [h3] at h5
            cases h5
            obtain ⟨q, len, cap, g1, g2, g3, g4, g5⟩ := hr.ownH h3
            have hl : len = l.length := Nat.eq_of_mul_eq_mul_right hz (g2.symm.trans (h4.len fun x c h => EncT.len h))
            rw [copyL_eq] at h
            exact copy_own (lo := 0) (nv := l.length) (ys := ys) hr hd ht (info_size hinf hb.1) hz hit h3 h4 h1 h2 (by rw [g1, hl]) (by omega) g4 (fun hc => by obtain ⟨b, e1, e2⟩ := g5 hc; exact ⟨b, e2, by rw [e1]; simp⟩) (by omega) h
          · cases h
        · cases h
      · rename_i i p e1 lo n' hx
        split at h
        · rename_i E' e l hit
          obtain ⟨hb, h⟩ := bif_some h
          simp only [Bool.and_eq_true, decide_eq_true_eq] at hb
          obtain ⟨⟨hb1, hb2⟩, rfl⟩ := hb
          have hz : 0 < e1.size := by have := Nat.le_of_ble_eq_true hb2; omega
          split at h
          · rename_i m hsrc
            obtain ⟨ys, h1, h2⟩ := srcC_ok hr hz hsrc
            obtain ⟨u, cs, h3, h4⟩ := hmm.arr hit
            obtain ⟨md, v1, h5, h6, k1, k2, ⟨pt, cap, k3, k4, k5, k6⟩, k7, _⟩ := opn_eq hmm.sl hx rfl
            rw [h3] at h5; cases h5
            have h7 : ev σ x = v1 := by simpa using h6
            obtain ⟨lo', rfl⟩ := Int.eq_ofNat_of_zero_le k1
            obtain ⟨n1, rfl⟩ := Int.eq_ofNat_of_zero_le k2
            simp only [Int.toNat_natCast] at k3 k4 k6 k7
            obtain ⟨s', E2, q, len, cap0, c0, e1', rfl, e3, _⟩ := k7 trivial
            cases e1'
            obtain ⟨q', len', cap', g1, g2, _⟩ := hr.ownH h3
            cases g1
            have hl : len = l.length := Nat.eq_of_mul_eq_mul_right hz (g2.symm.trans (h4.len fun x c h => EncT.len h))
            exact copy_own (lo := lo') (nv := n1) (ys := ys) hr hd ht (info_size hinf hb1) hz hit h3 h4 h1 h2 (h7.trans k3) k4 k5 (fun hc => by obtain ⟨b, e4, e5⟩ := k6 hc; exact ⟨b, e4, by rw [e5]; simp [pathOff]⟩) (by omega) h
          · cases h
        · cases h
      · rename_i i p e1 lo n' hx
        split at h
        · rename_i T v hit
          split at h
          · rename_i a0 x0 hg
            split at h
            · rename_i q e l
              obtain ⟨hb, h⟩ := bif_some h
              simp only [Bool.and_eq_true, decide_eq_true_eq] at hb
              obtain ⟨⟨⟨hb1, hb2⟩, rfl⟩, k1, k2, k3⟩ := hb
              have hz : 0 < e1.size := by have := Nat.le_of_ble_eq_true hb2; omega
              split at h
              · rename_i m hsrc
                obtain ⟨ys, h1, h2⟩ := srcC_ok hr hz hsrc
                obtain ⟨md, v1, h5, h6, _, _, ⟨pt, cap, g3, g4, g5, g6⟩, _⟩ := opn_eq hmm.sl hx rfl
                have h7 : ev σ x = v1 := by simpa using h6
                obtain ⟨b, cells, h8, h9⟩ := hmm.box hit
                rw [h8] at h5; cases h5
                obtain ⟨c1, c2, c3, he, h10, h11, h12⟩ := getF_ok hg h9
                have hlen2 := h12.len fun x c h => EncT.len h
                have hyl := h1.len fun x c h => EncT.len h
                obtain ⟨lo', rfl⟩ := Int.eq_ofNat_of_zero_le k1
                obtain ⟨n1, rfl⟩ := Int.eq_ofNat_of_zero_le k2
                simp only [Int.toNat_natCast] at g3 g4 g6
                have hq : lo' + n1 ≤ l.length := by rw [h11]; omega
                have e5 : lo' * e1.size + n1 * e1.size ≤ l.length * e1.size := by rw [← Nat.add_mul]; exact Nat.mul_le_mul_right _ hq
                have hk1 := AllR.take (fun x c h => EncT.len h) n1 h1
                have hk2 := hk1.len fun x c h => EncT.len h
                have hk3 : (ys.take (n1 * e1.size)).length ≤ n1 * e1.size := by rw [List.length_take]; omega
                have hcp := copyAt_enc (lo := lo') (nv := n1) h12 h1
                have hspl : (splice c2 (lo' * e1.size) (ys.take (n1 * e1.size))).length = c2.length := splice_length (by rw [hlen2]; omega)
                have hvec : EncC (fun b => A b ∧ Z.R b) w L (.val (.vec q e1) (copyAt l lo' n1 m)) (splice c2 (lo' * e1.size) (ys.take (n1 * e1.size))) := by
                  refine ⟨?_, hcp⟩
                  have := hcp.len fun x c h => EncT.len h
                  rw [hspl, hlen2] at this
                  rw [← h11]; exact (Nat.eq_of_mul_eq_mul_right hz this).symm
                obtain ⟨v', hk, _, hv'⟩ := setP_ok hvec h h9
                have hcells : splice cells (pathOff p) (splice c2 (lo' * e1.size) (ys.take (n1 * e1.size))) = splice cells (pathOff p + lo' * e1.size) (ys.take (n1 * e1.size)) := by
                  rw [he, splice_in h10 _ (by rw [hlen2]; omega), ← h10, splice_mid hspl]
                rw [hcells] at hv'
                have hF := St.addF (f := rootF Z.R L (.box T v') (splice cells (pathOff p + lo' * e1.size) (ys.take (n1 * e1.size)))) hr hv'
                obtain ⟨w', md', g1, g2, g3'⟩ := copy_run (P := P) (ty := ty) (t2 := t2) (off := pathOff p + lo' * e1.size) ht (info_size hinf hb1) h2 hyl h1.allOne hF h8 (by intro h; cases h) rfl g4 g5 (fun hc => by obtain ⟨b, e4, e5⟩ := g6 hc; exact ⟨b, e4, e5⟩) (by
                  show pathOff p + lo' * e1.size + n1 * e1.size ≤ cells.length
                  rw [he]; simp only [List.length_append, h10, hlen2]; omega) hz
                simp only [storedMD] at g3'
                subst g3'
                have key := LeL.box (cs' := splice cells (pathOff p + lo' * e1.size) (ys.take (n1 * e1.size))) h8
                have hr2 := Rel.change (a := .box T v') g2.dropF h8 key ⟨rfl, EncC.step (fun _ h => h) (fun _ _ => rfl) key (g2.fact 0 rfl)⟩
                refine WL.valO (v := goInt (Nat.min m.length n1)) rfl hd ?_ (WL.nil ⟨_, A, _, hk, hr2.sets rfl ?_, fun h => h.elim⟩)
                · rw [← g3, ← h7] at g1
                  simp [execOp, resolve, invoke, builtin, g1]
                · rw [copyN_eq]; rfl
              · cases h
            · cases h
          · cases h
        · cases h
      · cases h
theorem getG_mem {g : Nat} {cs : List Value} : ∀ {l : List (Nat × List Value)}, getG l g = some cs → (g, cs) ∈ l
  | [], h => by cases h
  | (q, c) :: r, h => by
    simp only [getG] at h
    cases hb : Nat.beq q g with
    | true =>
      rw [hb] at h
      have := nat_beq hb
      subst this
      cases h
      exact .head _
    | false => rw [hb] at h; exact .tail _ (getG_mem h)
theorem glv_ok {g : Nat} {t : TypeId} {v : PV} (hT : TabZ P T Z) (hr : Rel Z s σs A L σ w) (h : T.glv P g t = some v) : ∃ cs T1 fr, w.heap[g]? = some (.cells cs.toArray T1 fr) ∧ (A g ∧ Z.R g) ∧ EncC (fun b => A b ∧ Z.R b) w L v cs := by
  unfold Tab.glv at h
  split at h
  · rename_i cs hg
    split at h
    · rename_i v' hp
      cases h
      obtain ⟨h1, T1, fr, h2⟩ := hr.glob (p := (g, cs)) (by rw [hT.2]; exact getG_mem hg)
      obtain ⟨c, e1, h3⟩ := parse_enc (B := fun b => A b ∧ Z.R b) (w := w) (L := L) Q hp
      rw [List.append_nil] at e1
      subst e1
      exact ⟨_, T1, fr, h2, h1, h3⟩
    · cases h
  · cases h
theorem glob_ok {o : Op} {g dn : Nat} {G : Prop} (hT : TabZ P T Z) (hr : Rel Z s σs A L σ w) (hd : dstOk n ⟨some dn, o, ty, pos, after, none⟩ = true)
    (ho : (∃ t, o = .load t (.global g)) ∨ (∃ t ix, o = .indexAddr t (.global g) ix) ∨ (∃ t lo hi, o = .slice t (.global g) lo hi none)) (h : exGlob P T s dn g o k = some r) :
    OpOk P n ops ⟨some dn, o, ty, pos, after, none⟩ Z s σs k r G A L σ w := by
  have hm := hr.mem
  rcases ho with ⟨t, rfl⟩ | ⟨t, ix, rfl⟩ | ⟨t, lo, hi, rfl⟩
  · simp only [exGlob] at h
    split at h
    · rename_i v hv
      obtain ⟨hb, hk⟩ := bif_some h
      obtain ⟨cs, T1, fr, h1, h2, h3⟩ := glv_ok hT hr hv
      obtain ⟨val, h7, h8⟩ := load_cells (P := P) (σ := σ) (x := .global g) (b := g) (off := 0) (okLoad_ok hb) h3 (fun j hj => by rw [cell_of h1]; simp) rfl
      obtain ⟨hv, hv'⟩ := encV_valR h7
      exact post_val hr hd h8 hv hv' hk
    · cases h
  · simp only [exGlob] at h
    split at h
    · rename_i j m et e0 l0 hj ht hv
      obtain ⟨q, hix⟩ := asIdx_ok hj (opn_ok hm.sl ix (asIdx_V hj))
      split at h
      · rename_i inf m' e l hinf
        obtain ⟨hb, h⟩ := bif_some h
        simp only [Bool.and_eq_true] at hb
        obtain ⟨y, hy, hk⟩ := bind_some h
        obtain ⟨hj0, hj1, hj2⟩ := getI_spec hy
        obtain ⟨cs, T1, fr, h1, h2, h3, h4⟩ := glv_ok hT hr hv
        obtain ⟨c1, c2, c3, he, h8, h9, _⟩ := AllR.get (fun x c h => EncT.len h) h4 hj2
        have hmm := nat_beq hb.1.1
        subst hmm
        have h10 : c2.length = e.size := h9.len
        have hp : PtrR (fun b => A b ∧ Z.R b) w (.pointer (some ⟨g, 0 + j.toNat * e.size, none⟩)) c2 := by
          refine ⟨g, 0 + j.toNat * e.size, _, T1, fr, rfl, h2, h1, fun q hq => ?_⟩
          rw [List.getElem?_toArray, he, Nat.zero_add, List.getElem?_append_right (by omega), h8, show j.toNat * e.size + q - j.toNat * e.size = q by omega, List.getElem?_append_left hq]
        have hvr : ValR (fun b => A b ∧ Z.R b) w L (.rptr (e.pv y)) (.pointer (some ⟨g, 0 + j.toNat * e.size, none⟩)) := ⟨_, c2, rfl, hp, pv_enc.2 h9⟩
        exact post_val hr hd (run_idx_array (x := .global g) ht (info_size hinf hb.1.2) rfl hix (by omega) (by rw [← show l.length = m' from h3]; omega) w) rfl hvr hk
      · cases h
    · cases h
  · simp only [exGlob] at h
    split at h
    · rename_i u m et hat
      split at h
      · rename_i e0 l0 hv
        split at h
        · rename_i inf m' e l hinf
          obtain ⟨hb, h⟩ := bif_some h
          simp only [Bool.and_eq_true] at hb
          split at h
          · rename_i a b ha hb'
            obtain ⟨y, hy, hk⟩ := bind_some h
            obtain ⟨k1, k2, k3, k4, rfl⟩ := cutI_spec hy
            obtain ⟨cs, T1, fr, h1, h2, h3, h4⟩ := glv_ok hT hr hv
            have hmm := nat_beq hb.1.1
            subst hmm
            have hlen := h4.len fun x c h => EncT.len h
            have hz : 0 < e.size := by have := Nat.le_of_ble_eq_true hb.2; omega
            have hm3 : l.length = m' := h3
            have hxo := X.slice_arr (P := P) (σ := σ) (w := w) (x := .global g) (lo := lo) (hi := hi) (a := a.toNat) (b := b.toNat) (ad := ⟨g, 0, none⟩) hat (info_size hinf hb.1.2) k3 (by omega) rfl
              (by rcases bndO_ok hm.sl ha with h | ⟨h, h'⟩; exact .inl (by rw [← k1]; exact h); exact .inr ⟨h, by omega⟩) (by rcases bndO_ok hm.sl hb' with h | ⟨h, h'⟩; exact .inl (by rw [← k2]; exact h); exact .inr ⟨h, by omega⟩)
            have e5 : a.toNat * e.size ≤ b.toNat * e.size := Nat.mul_le_mul_right _ k3
            have e6 : b.toNat * e.size ≤ l.length * e.size := Nat.mul_le_mul_right _ k4
            have e7 : (b.toNat - a.toNat) * e.size = b.toNat * e.size - a.toNat * e.size := Nat.sub_mul _ _ _
            refine post_val hr hd hxo rfl (list_valR ⟨_, _, _, rfl, ?_, by omega, (fun h => by cases h), fun hc => ?_⟩ (AllR.drop (fun x c h => EncT.len h) _ (AllR.take (fun x c h => EncT.len h) _ h4))) hk
            · rw [List.length_drop, List.length_take, hlen, e7]; omega
            · rw [if_neg (by omega), add_off]
              refine ⟨g, 0 + a.toNat * e.size, _, T1, fr, rfl, h2, h1, ?_, fun i hi => ?_⟩
              · simp only [List.size_toArray, hlen, hm3]
                have : (m' - a.toNat) * e.size = m' * e.size - a.toNat * e.size := Nat.sub_mul _ _ _
                have : a.toNat * e.size ≤ m' * e.size := Nat.mul_le_mul_right _ (by omega)
                omega
              · rw [List.getElem?_toArray, Nat.zero_add, List.getElem?_drop, List.getElem?_take, if_pos (by omega)]
          · cases h
        · cases h
      · cases h
    · cases h
theorem op2_ok {o : Op} {dn : Nat} (hT : TabZ P T Z) (hI : InlOk P T.gl inl) (hr : Rel Z s σs A L σ w) (hd : dstOk n ⟨some dn, o, ty, pos, after, none⟩ = true) (h : op2 P T inl s dn ty o k = some r) :
    OpOk P n ops ⟨some dn, o, ty, pos, after, none⟩ Z s σs k r (nbk T s ⟨some dn, o, ty, pos, after, none⟩ = true) A L σ w := by
  have hm := hr.mem
  unfold op2 at h
  split at h
  · -- binOp
    rename_i o t x y t'
    split at h
    · rename_i a u b v hx hy
      split at h
      · rename_i c q hc hq
        obtain ⟨_, hok, h⟩ := bind_some h
        have := okI_spec hok
        subst this
        obtain ⟨hv, val, hb, hvr⟩ := binX_ok (P := P) (w := w) (L := L) (B := fun b => A b ∧ Z.R b) (t := t) hq hc
        exact post_val hr hd (X.bin (opn_int hm.sl hx) (opn_int hm.sl hy) hb) hv hvr h
      · cases h
    · rename_i u v hx hy
      split at h
      · obtain ⟨q, hq, h⟩ := bind_some h
        exact post_val (p := .val .str q) hr hd (X.strAdd (opn_str hm.sl hx) (opn_str hm.sl hy) hq) rfl rfl h
      · cases h
    · rename_i a h1 h2 hy
      exact exNil_ok hr hd rfl hy h
    · cases h
  · -- index
    rename_i t x ix
    split at h
    · rename_i j e0 l0 hj hx
      obtain ⟨q, hix⟩ := asIdx_ok hj (opn_ok hm.sl ix (asIdx_V hj))
      split at h
      · rename_i l ht
        obtain ⟨y, hy, h⟩ := bind_some h
        exact post_val (p := .i .u8 y) hr hd (X.strIdx ht (opn_str hm.sl hx) hix hy) rfl rfl h
      · rename_i m e l m' et ht
        obtain ⟨hb, h⟩ := bif_some h
        obtain ⟨y, hy, h⟩ := bind_some h
        obtain ⟨hk, hkk⟩ := bif_some h
        have hok := okLoad_ok hk
        have hv : EncV (fun b => A b ∧ Z.R b) w L (.val (.vec m e) l) (ev σ x) := opn_eq hm.sl hx rfl
        obtain ⟨cs, h1, h2, h3⟩ := hv
        have hsz : (e.pv y).size = e.size := by
          obtain ⟨_, _, h5⟩ := getI_spec hy
          obtain ⟨_, c2, _, _, _, h6, _⟩ := AllR.get (fun x c h => EncT.len h) h3 h5
          rw [← (pv_enc (L := L).2 h6).len, h6.len]
        have hmm := nat_beq hb
        subst hmm
        obtain ⟨d0, hd0, ha0⟩ := hok.agg
        obtain ⟨val, h4, h5⟩ := vec_idx (L := L) ht (by rw [← hsz]; exact hok.size) ⟨d0, hd0, ha0⟩ (fun hA => by rw [← hsz]; exact hok.one hA) h2 h1 h3 hix hy
        obtain ⟨hv, hv'⟩ := encV_valR h5
        exact post_val hr hd h4 hv hv' hkk
      · cases h
    · cases h
  · split at h
    · exact glob_ok hT hr hd (.inr (.inr ⟨_, _, _, rfl⟩)) h
    · exact slice_ok hr hd h (fun g => g)
  · split at h
    · exact glob_ok hT hr hd (.inr (.inl ⟨_, _, rfl⟩)) h
    · exact idxAddr_ok hr hd h
  · split at h
    · exact glob_ok hT hr hd (.inl ⟨_, rfl⟩) h
    · exact load_ok hr hd h
  · -- alloc
    split at h
    · rename_i v hz; exact alloc_ok hr hd hz h
    · cases h
  · obtain ⟨hb, h⟩ := bif_some h
    exact box_ok hr hd hb h
  · split at h
    · rename_i v hv
      obtain ⟨hA, h⟩ := bif_some h
      obtain ⟨h1, h2⟩ := const_agg (B := fun b => A b ∧ Z.R b) (w := w) (L := L) hv hA
      exact post_val hr hd (X.assign rfl) h1 h2 h
    · cases h
  · split at h
    · rename_i v hv
      obtain ⟨hA, h⟩ := bif_some h
      obtain ⟨h1, h2⟩ := const_agg (B := fun b => A b ∧ Z.R b) (w := w) (L := L) hv hA
      exact post_val hr hd (X.move rfl) h1 h2 h
    · cases h
  · exact build_ok hr hd h
  · exact buildSlice_ok hr hd h (fun g => g)
  · exact make_ok hr hd h
  · -- convert
    split at h
    · rename_i e ha ht
      split at h
      · rename_i l he hx
        exact s2b_ok hr hd ha ht he hx h
      · cases h
    · rename_i e ha ht
      obtain ⟨hb, h1⟩ := bif_some h
      clear h
      have := nat_beq hb
      subst this
      split at h1
      · rename_i i he hx
        split at h1
        · rename_i E e' l hi
          split at h1
          · rename_i y ys
            exact conv_ok hr hd ht he hx hi h1
          · cases h1
        · cases h1
      · cases h1
    · cases h
  · -- append
    rename_i as ts
    split at h
    · rename_i x y t t2 has hts
      have h1 := arr_eq has
      have h2 := arr_eq hts
      subst h1 h2
      refine WL_mono (append_ok hr hd h) ?_
      rintro σ' w' ⟨s', A', L', g1, g2, g3⟩
      exact ⟨s', A', L', g1, g2, fun g => by simp [nbk, brk] at g⟩
    · cases h
  · -- copy
    rename_i as ts
    split at h
    · rename_i x y t t2 has hts
      have h1 := arr_eq has
      have h2 := arr_eq hts
      subst h1 h2
      refine WL_mono (copy_ok hr hd h) ?_
      rintro σ' w' ⟨s', A', L', g1, g2, g3⟩
      exact ⟨s', A', L', g1, g2, fun g => by simp [nbk, brk] at g⟩
    · cases h
  · -- cap
    rename_i as ts
    split at h
    · rename_i x t has hts
      have h1 := arr_eq has
      have h2 := arr_eq hts
      subst h1 h2
      split at h
      · rename_i e ht hx
        refine post_val (p := .i .i64 (0 : Int)) hr hd (val := iv (0 : Int)) (fun _ _ _ _ _ => ?_) rfl rfl h
        have hv := valR_nils (opn_eq hm.sl hx rfl)
        simp [execOp, resolve, invoke, builtin, hv, Builtin.cap_, run_underlying ht, goInt]
        rfl
      · cases h
    · cases h
  · -- call
    rename_i g as ts
    split at h
    · rename_i f caps hg
      refine call_ok hT hI hr hg hd h (fun gg => ?_)
      unfold nbk at gg
      split at gg
      · rename_i heq; cases heq
      · rename_i heq; cases heq
      · rename_i f' as' ts' heq
        cases heq
        cases hg
        split at gg
        · rename_i c hc
          simp only [Bool.and_eq_true, Bool.or_eq_true, Bool.not_eq_true'] at gg
          exact ⟨c, hc, gg.1, gg.2.imp id isEmpty_nil⟩
        · cases gg
      · rename_i h1 h2 h3
        simp only [brk] at gg
        split at gg <;> simp_all
    · cases h
  · cases h
end Go.Rx

set_option linter.unusedVariables false
set_option linter.unusedSimpArgs false
namespace Go.Rx
open Go Go.Lv
variable {P : Program} {w w' : World} {L : List MD} {s : S} {σs : List Env} {σ : Env} {Z : Fix} {A : Reg}
theorem bif_some1 {α : Type 1} {c : Bool} {x : Option α} {y : α} (h : (cnd (c ) (x ) <| none) = some y) : c = true ∧ x = some y := by cases c <;> simp_all
theorem bnd_ok {o : Op} {b : BV} {x : b.X} (hr : Rel Z s σs A L σ w) (h : bnd P s o = some b) (hx : b.E = some x) : (b.v x).isV = true ∧ ∃ val, (∀ w', XO P σ w' o val) ∧ ValR (fun b => A b ∧ Z.R b) w L (b.v x) val := by
  have hm := hr.mem
  unfold bnd at h
  split at h
  · -- binOp
    rename_i o t x y t'
    split at h
    · rename_i a u b v hx' hy
      split at h
      · rename_i c q hc hq
        cases h
        have := okI_spec hx
        subst this
        obtain ⟨hv, val, hb, hvr⟩ := binX_ok (P := P) (w := w) (L := L) (B := fun b => A b ∧ Z.R b) (t := t) hq hc
        exact ⟨hv, val, fun w' => X.bin (opn_int hm.sl hx') (opn_int hm.sl hy) hb, hvr⟩
      · cases h
    · rename_i u v hx' hy
      split at h
      · cases h
        exact ⟨rfl, _, fun w' => X.strAdd (opn_str hm.sl hx') (opn_str hm.sl hy) hx, rfl⟩
      · cases h
    · cases h
  · -- index
    split at h
    · rename_i j l hj hx' ht
      cases h
      obtain ⟨q, hix⟩ := asIdx_ok hj (opn_ok hm.sl _ (asIdx_V hj))
      exact ⟨rfl, _, fun w' => X.strIdx ht (opn_str hm.sl hx') hix hx, rfl⟩
    · cases h
  · -- slice
    split at h
    · rename_i ht
      split at h
      · rename_i l hx'
        split at h
        · rename_i a b ha hb
          cases h
          exact ⟨rfl, _, fun w' => X.cutS ht (opn_str hm.sl hx') hx (bndO_ok hm.sl ha) (bndO_ok hm.sl hb), rfl⟩
        · cases h
      · cases h
    · rename_i et ht
      split at h
      · rename_i e0 l0 hx'
        split at h
        · rename_i e l
          split at h
          · rename_i inf hinf
            obtain ⟨hb, h⟩ := bif_some1 h
            simp only [Bool.and_eq_true] at hb
            split at h
            · rename_i a b ha hb'
              cases h
              obtain ⟨h1, h2, h3, h4, h5'⟩ := cutI_spec hx
              obtain ⟨c0, h5, h6⟩ := valR_list (opn_eq hm.sl hx' rfl)
              have hlen := h6.len fun x c h => EncT.len h
              obtain ⟨p', l', c', h7, h8⟩ := X.slice_rd (P := P) (l := a.toNat) (k := b.toNat) (m := l.length) ht (info_size hinf hb.1) (St.addRd hr h5) (j := 0) rfl hlen (ble_pos hb.2) h3 h4
              refine ⟨rfl, .slice p' l' c', fun w' => h7 σ w' _ _ _ rfl (by rcases bndO_ok hm.sl ha with h | ⟨h, h'⟩; exact .inl (by rw [← h1]; exact h); exact .inr ⟨h, by omega⟩)
                (by rcases bndO_ok hm.sl hb' with h | ⟨h, h'⟩; exact .inl (by rw [← h2]; exact h); exact .inr ⟨h, by rw [h']; simp [lenI]⟩), ?_⟩
              rw [h5']
              exact list_valR (h8.fact 0 rfl) (AllR.drop (fun x c h => EncT.len h) _ (AllR.take (fun x c h => EncT.len h) _ h6))
            · cases h
          · cases h
        · cases h
      · cases h
    · cases h
  · -- indexAddr
    split at h
    · cases h
    · rename_i j hj
      obtain ⟨q, hix⟩ := asIdx_ok hj (opn_ok hm.sl _ (asIdx_V hj))
      split at h
      · rename_i et ht
        split at h
        · cases h
        · rename_i inf hinf
          split at h
          · rename_i e0 l0 hx'
            split at h
            · rename_i e l
              obtain ⟨hb, h⟩ := bif_some1 h
              cases h
              simp only [Bool.and_eq_true] at hb
              obtain ⟨hj0, hj1, hj2⟩ := getI_spec hx
              obtain ⟨c0, h1, h2⟩ := valR_list (opn_eq hm.sl hx' rfl)
              obtain ⟨p, len, cap, h3, h4, h5, h6, h7⟩ := h1
              have hlen := h2.len fun x c h => EncT.len h
              have hz : 0 < e.size := by have := Nat.le_of_ble_eq_true hb.2; omega
              have hl : len = l.length := Nat.eq_of_mul_eq_mul_right hz (h4.symm.trans hlen)
              subst hl
              obtain ⟨b, off, arr, T, fr, rfl, hB, hbl, hcap, hc⟩ := h7 (by omega)
              obtain ⟨c1, c2, c3, he, h8, h9, _⟩ := AllR.get (fun x c h => EncT.len h) h2 hj2
              have h10 : c2.length = e.size := h9.len
              have h11 : (j.toNat + 1) * e.size ≤ l.length * e.size := Nat.mul_le_mul_right _ hj1
              rw [Nat.succ_mul] at h11
              have hp : PtrR (fun b => A b ∧ Z.R b) w (.pointer (some ⟨b, off + j.toNat * e.size, none⟩)) c2 := by
                refine ⟨b, off + j.toNat * e.size, arr, T, fr, rfl, hB, hbl, fun q hq => ?_⟩
                rw [Nat.add_assoc, hc _ (by omega), he, List.getElem?_append_right (by omega), h8, show j.toNat * e.size + q - j.toNat * e.size = q by omega, List.getElem?_append_left hq]
              have hvr : ValR (fun b => A b ∧ Z.R b) w L (.rptr (e.pv x)) (.pointer (some ⟨b, off + j.toNat * e.size, none⟩)) := ⟨_, c2, rfl, hp, pv_enc.2 h9⟩
              exact ⟨rfl, _, fun w' => run_idx_slice ht (info_size hinf hb.1) h3 hix (by omega) (by omega) w', hvr⟩
            · cases h
          · rename_i i hx'
            split at h
            · rename_i E e l hi
              obtain ⟨hb, h⟩ := bif_some1 h
              cases h
              simp only [Bool.and_eq_true] at hb
              obtain ⟨hj0, hj1, hj2⟩ := getI_spec hx
              obtain ⟨v, cs, h1, h2⟩ := hm.arr hi
              obtain ⟨z', E', c', h3⟩ := valR_own (opn_eq hm.sl hx' rfl)
              rw [h1] at h3; cases h3
              have hlen := h2.len fun x c h => EncT.len h
              have hz : 0 < e.size := by have := Nat.le_of_ble_eq_true hb.2; omega
              have hpos : 0 < cs.length := by rw [hlen]; exact Nat.mul_pos (by omega) hz
              obtain ⟨b, len, cap, h4, h5⟩ := hr.base h1 hpos
              have hl : len = l.length := Nat.eq_of_mul_eq_mul_right hz (h5.symm.trans hlen)
              subst hl
              refine ⟨rfl, _, fun w' => run_idx_slice ht (info_size hinf hb.1) h4 hix (by omega) (by omega) w', ?_⟩
              rw [show (0 : Nat) + j.toNat * e.size = pathOff [.idx j e.size] by simp [pathOff, stepOff]]
              refine ptr_valR h1 ?_
              rw [h4]; rfl
            · cases h
          · rename_i o i p e lo n' hx'
            obtain ⟨hb, h⟩ := bif_some1 h
            cases h
            simp only [Bool.and_eq_true] at hb
            have hj' : 0 ≤ j ∧ j < n' := of_decide_eq_true (okI_spec hx)
            obtain ⟨md, v1, h3, h4, k1, k2, ⟨pt, cap, k3, k4, k5, k6⟩, _⟩ := opn_eq hm.sl hx' rfl
            have h6 := List.cons.inj h4
            obtain ⟨b, e1, rfl⟩ := k6 (by omega)
            refine ⟨rfl, _, fun w' => run_idx_slice ht (info_size hinf hb.1) (h6.1.trans k3) hix hj'.1 (by omega) w', ?_⟩
            rw [show pathOff p + lo.toNat * e.size + j.toNat * e.size = pathOff (p ++ [.idx (lo + j) e.size]) by
              rw [pathOff_snoc, Nat.add_assoc, ← Nat.add_mul]
              show _ = pathOff p + (lo + j).toNat * e.size
              rw [Int.toNat_add k1 hj'.1]]
            exact ptr_valR h3 e1
          · cases h
      · rename_i m et ht
        split at h
        · cases h
        · rename_i inf hinf
          split at h
          · rename_i i p hx'
            split at h
            · rename_i T v hi
              split at h
              · rename_i e0 l0 hg
                split at h
                · rename_i m' e l
                  obtain ⟨hb, h⟩ := bif_some1 h
                  cases h
                  simp only [Bool.and_eq_true] at hb
                  obtain ⟨hj0, hj1, hj2⟩ := getI_spec hx
                  obtain ⟨md, b, h1, h2, h3⟩ := valR_ptr (opn_eq hm.sl hx' rfl)
                  obtain ⟨b', cells, h4, h5⟩ := hm.box hi
                  rw [h4] at h1; cases h1; cases h2
                  obtain ⟨c1, c2, c3, he, h6, h7, h8⟩ := getF_ok hg h5
                  have hmm := nat_beq hb.2
                  subst hmm
                  have hl : l.length = m' := h7
                  refine ⟨rfl, _, fun w' => run_idx_array ht (info_size hinf hb.1.1) h3 hix (by omega) (by omega) w', ?_⟩
                  rw [show pathOff p + j.toNat * e.size = pathOff (p ++ [.idx j e.size]) by simp [pathOff_append, pathOff, stepOff]]
                  exact ptr_valR h4 rfl
                · cases h
              · cases h
            · cases h
          · cases h
      · cases h
  · cases h
end Go.Rx

set_option linter.unusedVariables false
set_option linter.unusedSimpArgs false
namespace Go.Rx
open Go Go.Lv
variable {P : Program} {B B' : Reg} {w w' : World} {L L' : List MD} {s : S} {σs : List Env} {σ : Env} {Z : Fix} {A A' : Reg} {n : Nat} {ops : Array Oper}
variable {R : Type} {k : S → Option R} {r : R} {d : Option Nat} {ty : TypeId} {pos : String} {after : Array Edge} {T : Tab} {inl : Inl R}

theorem exU_ok {o : Oper} (hT : TabZ P T Z) (hI : InlOk P T.gl inl) (hr : Rel Z s σs A L σ w) (hd : dstOk n o = true) (h : exU P T inl o s k = some r) :
    OpOk P n ops { o with guard := none } Z s σs k r (nbk T s o = true) A L σ w := by
  obtain ⟨d, op, ty, pos, after, g⟩ := o
  have hd' : dstOk n ⟨d, op, ty, pos, after, none⟩ = true := hd
  unfold exU at h
  split at h
  · rename_i v hv
    obtain ⟨h1, val, h2, h3⟩ := op0_ok (P := P) (B := fun b => A b ∧ Z.R b) (w := w) (L := L) (fun _ => True) hr.mem.sl hv
    exact post_val hr hd' (h2 w trivial) h1 h3 h
  · split at h
    · rename_i v hv
      obtain ⟨h1, val, h2, h3⟩ := op1_ok (P := P) hr hv
      exact post_val hr hd' (h2 w (.refl hr)) h1 h3 h
    · cases d with
      | some dn => exact op2_ok hT hI hr hd' h
      | none =>
        simp only at h
        split at h
        · rename_i t a x
          refine WL_mono (store_ok hr h) ?_
          rintro σ' w' ⟨s', A', L', g1, g2, g3⟩
          exact ⟨s', A', L', g1, g2, fun g => by simp [nbk, brk] at g⟩
        · rename_i as ts
          split at h
          · rename_i x y t t2 has hts
            have h1 := arr_eq has
            have h2 := arr_eq hts
            subst h1 h2
            refine WL_mono (copy_ok hr hd' h) ?_
            rintro σ' w' ⟨s', A', L', g1, g2, g3⟩
            exact ⟨s', A', L', g1, g2, fun g => by simp [nbk, brk] at g⟩
          · cases h
        · cases h
theorem WL.offO {rest : List Oper} {K : Env → World → Prop} {o : Oper} {j t : Nat} {want b : Bool} (hg : o.guard = some (j, want)) (hj : (ops[j]?).bind (·.dst) = some t) (hb : σ t = .bool b) (hne : (b == want) = false)
    (hdn : dstOk n o = true) (h : WL P n ops rest K (updO σ o.dst Go.undef) w) : WL P n ops (o :: rest) K σ w := by
  intro a ha
  refine wpList_step fun K' hK' => ?_
  have hw : Region.wanted o (yielded ops a.tmps) = false := by
    simp only [Region.wanted, hg, yielded_of ha hj hb]
    cases b <;> cases want <;> simp_all
  rw [if_neg (by rw [hw]; simp)]
  refine hK' _ _ ?_
  cases hd : o.dst with
  | none => rw [hd] at h; exact h _ (ha.put_none _)
  | some d => rw [hd] at h; unfold dstOk at hdn; rw [hd] at hdn; exact h _ (ha.put hdn _)
theorem WL.offUO {rest : List Oper} {K : Env → World → Prop} {o : Oper} {j t : Nat} {want : Bool} (hg : o.guard = some (j, want)) (hj : (ops[j]?).bind (·.dst) = some t) (hb : σ t = Go.undef)
    (hdn : dstOk n o = true) (h : WL P n ops rest K (updO σ o.dst Go.undef) w) : WL P n ops (o :: rest) K σ w := by
  intro a ha
  refine wpList_step fun K' hK' => ?_
  have hy : yielded ops a.tmps j = none := by
    unfold yielded
    rw [hj]
    have h1 := ha.get t
    rw [hb] at h1
    cases h : a.tmps[t]? with
    | none => simp [h]
    | some v =>
      rw [Array.getD_eq_getD_getElem?, h] at h1
      simp at h1
      subst h1
      simp [h, undef]
  have hw : Region.wanted o (yielded ops a.tmps) = false := by
    simp only [Region.wanted, hg, hy]
    cases want <;> rfl
  rw [if_neg (by rw [hw]; simp)]
  refine hK' _ _ ?_
  cases hd : o.dst with
  | none => rw [hd] at h; exact h _ (ha.put_none _)
  | some d => rw [hd] at h; unfold dstOk at hdn; rw [hd] at hdn; exact h _ (ha.put hdn _)
theorem post_off {o : Oper} {G : Prop} (hr : Rel Z s σs A L σ w) (h : k (s.sets o.dst .off) = some r) : WL P n ops [] (Post Z σs k r G A L s.it w) (updO σ o.dst Go.undef) w := by
  refine WL.nil ⟨_, A, L, h, hr.setsOff, fun _ => ?_⟩
  have : (s.sets o.dst .off).it = s.it := by cases o.dst <;> rfl
  rw [this]; exact .refl
theorem eqB_beq {a b : Bool} : eqB a b = (b == a) := by cases a <;> cases b <;> rfl
theorem post_G {G G' : Prop} {σ' : Env} {it : List Item} (hp : Post Z σs k r G A L it w σ' w') (h : G' → G) : Post Z σs k r G' A L it w σ' w' := by
  obtain ⟨s', A', L', h1, h2, h3⟩ := hp
  exact ⟨s', A', L', h1, h2, fun g => h3 (h g)⟩
theorem gd_slot {t dn : Nat} {want b : Bool} {v : PV} {val : Value} (ht : σ t = .bool b) (hne : Nat.beq dn t = false) (h1 : b = want → ValR B w L v val) (h2 : b ≠ want → val = Go.undef) : SlotR B w L (upd σ dn val) dn (.gd t want v) := by
  have htd : t ≠ dn := by intro e; subst e; simp at hne
  exact ⟨b, by rw [upd_ne _ _ htd]; exact ht, fun e => by rw [upd_same]; exact h1 e, fun e => by rw [upd_same]; exact h2 e⟩
/-- A guarded step that asks nothing. -/
theorem post_gd {o : Oper} {j t dn : Nat} {want b : Bool} {v : PV} {G : Prop} (hr : Rel Z s σs A L σ w) (hg : o.guard = some (j, want)) (hj : (ops[j]?).bind (·.dst) = some t) (ht : σ t = .bool b) (hdn : dstOk n o = true) (hd : o.dst = some dn)
    (hne : Nat.beq dn t = false) (hv : b = want → v.isV = true ∧ ∃ val, XO P σ w o.op val ∧ ValR (fun b => A b ∧ Z.R b) w L v val) (hk : k (s.set dn (.gd t want v)) = some r) : OpOk P n ops o Z s σs k r G A L σ w := by
  by_cases hbw : b = want
  · obtain ⟨h1, val, h2, h3⟩ := hv hbw
    refine WL.on hg hj ht (by simpa using hbw) (WL.valO rfl (by simpa [dstOk] using hdn) (h2 _ _ _ _ _) (WL.nil ⟨_, A, L, hk, ?_, fun _ => .refl⟩))
    simp only [hd]
    exact hr.set (gd_slot ht hne (fun _ => h3) (fun e => absurd hbw e))
  · refine WL.offO hg hj ht (by simpa using hbw) hdn (WL.nil ⟨_, A, L, hk, ?_, fun _ => .refl⟩)
    rw [hd]
    exact hr.set (gd_slot ht hne (fun e => absurd e hbw) (fun _ => rfl))
theorem slot_bool {t : Nat} {b : Bool} (hm : SlotsR B w L σ s.sl) (h : getS s.sl t = .val .bool b) : σ t = .bool b := by
  have h1 := getS_slot (t := t) hm
  rw [h] at h1
  exact valR_bool h1
theorem slot_cst {t : Nat} {b : Bool} (hm : SlotsR B w L σ s.sl) (h : getS s.sl t = .cst (.bool b)) : σ t = .bool b := by
  have h1 := getS_slot (t := t) hm
  rw [h] at h1
  have : [σ t] = [Value.bool b] := h1.1
  simpa using this
theorem exG_ok {o : Oper} {j t : Nat} {want : Bool} (hT : TabZ P T Z) (hI : InlOk P T.gl inl) (hr : Rel Z s σs A L σ w) (hd : dstOk n o = true) (hg : o.guard = some (j, want)) (hj : (ops[j]?).bind (·.dst) = some t)
    (h : exG P T inl o t want s k = some r) : OpOk P n ops o Z s σs k r (nbk T s o = true ∧ ∃ b, getS s.sl t = .cst (.bool b)) A L σ w := by
  have hm := hr.mem
  have lit : ∀ (G : Prop) (s1 : S) (b : Bool), (G → nbk T s1 o = true) → Rel Z s1 σs A L σ w → s1.it = s.it → σ t = .bool b → (cnd (eqB want b ) (exU P T inl o s1 k ) <| k (s1.sets o.dst .off)) = some r → OpOk P n ops o Z s σs k r G A L σ w := by
    intro G s1 b hG hr1 hit ht h
    cases hb : eqB want b with
    | true =>
      rw [hb] at h
      refine WL.on hg hj ht (by rw [← eqB_beq]; exact hb) (WL_mono (exU_ok hT hI hr1 hd h) fun σ' w' hp => ?_)
      rw [← hit]
      exact post_G hp hG
    | false =>
      rw [hb] at h
      refine WL.offO hg hj ht (by rw [← eqB_beq]; exact hb) hd ?_
      rw [← hit]
      exact post_off hr1 h
  unfold exG at h
  simp only at h
  split at h
  · rename_i b hb
    exact lit _ s b (fun g => g.1) hr rfl (slot_cst hm.sl hb) h
  · rename_i hb
    have h1 := getS_slot (t := t) hm.sl
    rw [hb] at h1
    exact WL.offUO hg hj h1 hd (post_off hr h)
  · rename_i b hb
    have ht := slot_bool hm.sl hb
    have nog : ∀ {X : Prop}, (∃ b, getS s.sl t = .cst (.bool b)) → X := fun ⟨_, g⟩ => by rw [hb] at g; cases g
    split at h
    · rename_i dn v hdn hv
      cases hne : Nat.beq dn t with
      | true => rw [hne] at h; cases h
      | false =>
        rw [hne] at h
        refine post_gd hr hg hj ht hd hdn hne (fun hbw => ?_) h
        subst hbw
        obtain ⟨h1, val, h2, h3⟩ := op0_ok (P := P) (fun _ => True) (hr.res ht).mem.sl hv
        exact ⟨h1, val, h2 w trivial, h3⟩
    · rename_i dn v hdn hv0 hv
      cases hne : Nat.beq dn t with
      | true => rw [hne] at h; cases h
      | false =>
        rw [hne] at h
        refine post_gd hr hg hj ht hd hdn hne (fun hbw => ?_) h
        subst hbw
        obtain ⟨h1, val, h2, h3⟩ := op1_ok (P := P) (hr.res ht) hv
        exact ⟨h1, val, h2 w (.refl (hr.res ht)), h3⟩
    · cases b with
      | true => exact lit _ (s.res t true) true (fun g => nog g.2) (hr.res ht) rfl ht (by simpa using h)
      | false => exact lit _ (s.res t false) false (fun g => nog g.2) (hr.res ht) rfl ht (by simpa using h)
  · cases h
theorem exOp_ok {o : Oper} (hT : TabZ P T Z) (hI : InlOk P T.gl inl) (hr : Rel Z s σs A L σ w) (h : exOp P T inl n ops o s k = some r) : OpOk P n ops o Z s σs k r (nbk T s o = true ∧ gOk ops s o = true) A L σ w := by
  have hm := hr.mem
  unfold exOp at h
  cases hd : dstOk n o with
  | false => rw [hd] at h; cases h
  | true =>
    rw [hd] at h
    simp only [Bool.not_true, cond_false] at h; try dsimp only [cnd] at h
    split at h
    · rename_i hg
      have : ({ o with guard := none } : Oper) = o := by cases o; simp only at hg; subst hg; rfl
      rw [← this]
      refine WL_mono (exU_ok hT hI hr hd h) fun σ' w' hp => post_G hp ?_
      rintro ⟨g, _⟩; rw [this] at g; exact g
    · rename_i j want hg
      split at h
      · cases h
      · rename_i t hj
        have fin : ∀ s1 : S, (gOk ops s o = true → s1 = s) → Rel Z s1 σs A L σ w → s1.it = s.it → exG P T inl o t want s1 k = some r → OpOk P n ops o Z s σs k r (nbk T s o = true ∧ gOk ops s o = true) A L σ w := by
          intro s1 hs hr1 hit h
          refine WL_mono (exG_ok hT hI hr1 hd hg hj h) fun σ' w' hp => ?_
          rw [← hit]
          refine post_G hp (fun g => ?_)
          have := hs g.2
          subst this
          refine ⟨g.1, ?_⟩
          have h2 := g.2
          unfold gOk at h2
          simp only [hg, hj] at h2
          split at h2
          · exact ⟨_, by assumption⟩
          · cases h2
        split at h
        · rename_i t2 w2 v hv
          have nog : ∀ {X : Prop}, gOk ops s o = true → X := fun g => by
            unfold gOk at g
            simp only [hg, hj, hv] at g
            cases g
          split at h
          · rename_i b hb
            have ht := slot_bool hm.sl hb
            cases b with
            | true => exact fin _ nog (hr.res ht) rfl (by simpa using h)
            | false => exact fin _ nog (hr.res ht) rfl (by simpa using h)
          · cases h
        · exact fin s (fun _ => rfl) hr rfl h
theorem exOps_ok (hT : TabZ P T Z) (hI : InlOk P T.gl inl) : ∀ {l : List Oper} {s : S} {A : Reg} {L : List MD} {σ : Env} {w : World}, Rel Z s σs A L σ w → exOps P T inl n ops l s k = some r →
    WL P n ops l (fun σ' w' => ∃ s' A' L', k s' = some r ∧ Rel Z s' σs A' L' σ' w') σ w
  | [], s, A, L, σ, w, hr, h => WL.nil ⟨s, A, L, h, hr⟩
  | o :: l, s, A, L, σ, w, hr, h => by
    have h1 := exOp_ok (ops := ops) hT hI hr h
    refine WL.cut _ [o] h1 ?_
    rintro σ' w' ⟨s', A', L', g1, g2, _⟩
    exact exOps_ok hT hI g2 g1
end Go.Rx

set_option linter.unusedVariables false
set_option linter.unusedSimpArgs false
namespace Go.Rx
open Go Go.Lv
variable {P : Program} {B B' : Reg} {w w' : World} {L L' : List MD} {s : S} {σs : List Env} {σ : Env} {Z : Fix} {A A' : Reg} {n : Nat} {ops : Array Oper}
variable {R : Type} {k : S → Option R} {r : R} {d : Option Nat} {ty : TypeId} {pos : String} {after : Array Edge} {T : Tab} {inl : Inl R} {mem : Bool} {listed : Array Bool}

/-- The worlds that keep what a state has in memory. -/
def ExtM (Z : Fix) (σs : List Env) (A : Reg) (L : List MD) (it : List Item) (w w' : World) : Prop := ∃ s2 σ2 A' L', Rel Z s2 σs A' L' σ2 w' ∧ Grow A L it w A' L' s2.it w'
theorem ExtM.refl (hr : Rel Z s σs A L σ w) : ExtM Z σs A L s.it w w := ⟨s, σ, A, L, hr, .refl⟩
theorem ExtM.ext (hr : Rel Z s σs A L σ w) (h : ExtM Z σs A L s.it w w') : Ext Z s σs A L σ w w' := by
  obtain ⟨s2, σ2, A', L', h1, h2⟩ := h
  exact h2.ext hr h1
theorem firstPure_ok {z : Nat} : ∀ {is : List Nat} {i d : Nat} {v : PV}, firstPure P n mem ops z listed s is = some (i, d, v) → ∃ o, ops[i]? = some o ∧ takeB ops z listed i = true ∧ pureAt P n mem ops o s = some (d, v)
  | [], _, _, _, h => by simp [firstPure] at h
  | j :: is, i, d, v, h => by
    simp only [firstPure] at h
    split at h
    · cases h
    · rename_i o ho
      split at h
      · rename_i d' v' hp
        cases h
        cases ht : takeB ops z listed j with
        | true => rw [ht] at hp; exact ⟨o, ho, by first | exact ht | rfl, hp⟩
        | false => rw [ht] at hp; cases hp
      · exact firstPure_ok h
theorem valAt_ok {o : Op} {v : PV} {S : World → Prop} (hr : Rel Z s σs A L σ w) (h : valAt P mem s o = some v) (hS : mem = true → ∀ w', S w' → Ext Z s σs A L σ w w') : v.isV = true ∧ ∃ val, (∀ w', S w' → XO P σ w' o val) ∧ ValR (fun b => A b ∧ Z.R b) w L v val := by
  unfold valAt at h
  split at h
  · rename_i u hu
    cases h
    exact op0_ok (P := P) S hr.mem.sl hu
  · cases mem with
    | true =>
      obtain ⟨h1, val, h2, h3⟩ := op1_ok (P := P) hr h
      exact ⟨h1, val, fun w' hw => h2 w' (hS rfl w' hw), h3⟩
    | false => cases h
theorem ext_res {t : Nat} {b : Bool} {w' : World} (h : Ext Z s σs A L σ w w') (ht : σ t = .bool b) : Ext Z (s.res t b) σs A L σ w w' := by
  obtain ⟨⟨A', L', it', h1, h2⟩, h3⟩ := h
  exact ⟨⟨A', L', it', h1, Rel.res (s := ⟨s.sl, s.it ++ it', s.st⟩) h2 ht⟩, h3⟩
theorem take_ok {S : World → Prop} {z fuel i dn : Nat} {o : Oper} {v : PV} {K : Env → World → Prop} (hr : Rel Z s σs A L σ w) (hi : ops[i]? = some o) (hB : takeB ops z listed i = true) (hp : pureAt P n mem ops o s = some (dn, v)) (hSw : S w)
    (hS : mem = true → ∀ w', S w' → Ext Z s σs A L σ w w') (h : ∀ σ', Rel Z (s.set dn v) σs A L σ' w → WD P n ops S z fuel (listed.setIfInBounds i true) K σ' w) : WD P n ops S z (fuel + 1) listed K σ w := by
  obtain ⟨d, op, ty, pos, after, g⟩ := o
  have hm := hr.mem
  unfold pureAt at hp
  simp only at hp
  split at hp
  · cases hp
  · rename_i d' 
    cases hn : Nat.blt d' n with
    | false => rw [hn] at hp; cases hp
    | true =>
      rw [hn] at hp
      simp only [Bool.not_true, cond_false] at hp; try dsimp only [cnd] at hp
      split at hp
      · -- no guard
        cases hv : valAt P mem s op with
        | none => rw [hv] at hp; cases hp
        | some u =>
          rw [hv] at hp; cases hp
          obtain ⟨h1, val, h2, h3⟩ := valAt_ok hr hv hS
          exact WD.x i hi hB hn hSw h2 (h _ (hr.set (.put h1 h3)))
      · rename_i j want
        split at hp
        · cases hp
        · rename_i t hj
          split at hp
          · rename_i b hb
            have ht := slot_cst hm.sl hb
            cases hw : eqB want b with
            | true =>
              rw [hw] at hp
              dsimp only [cnd, cond] at hp
              cases hv : valAt P mem s op with
              | none => rw [hv] at hp; cases hp
              | some u =>
                rw [hv] at hp; cases hp
                obtain ⟨h1, val, h2, h3⟩ := valAt_ok hr hv hS
                have hbw : (b == want) = true := by rw [← eqB_beq]; exact hw
                refine WD.gx (v := val) i hi hB hn hj ht hSw (fun _ => h2) (h _ ?_)
                rw [gv_on hbw]
                exact hr.set (.put h1 h3)
            | false =>
              rw [hw] at hp
              cases hp
              have hbw : (b == want) = false := by rw [← eqB_beq]; exact hw
              refine WD.gx (v := Go.undef) i hi hB hn hj ht hSw (fun hg => by rw [hbw] at hg; cases hg) (h _ ?_)
              rw [gv_off hbw]
              exact hr.set (show upd σ dn Go.undef dn = Go.undef from upd_same _ _ _)
          · rename_i b hb
            have ht := slot_bool hm.sl hb
            cases hne : Nat.beq d' t with
            | true => rw [hne] at hp; cases hp
            | false =>
              rw [hne] at hp
              dsimp only [cnd, cond] at hp
              cases hv : valAt P mem (s.res t want) op with
              | none => rw [hv] at hp; cases hp
              | some u =>
                rw [hv] at hp; cases hp
                by_cases hbw : b = want
                · subst hbw
                  obtain ⟨h1, val, h2, h3⟩ := valAt_ok (hr.res ht) hv (fun hm w' hw => ext_res (hS hm w' hw) ht)
                  refine WD.gx (v := val) i hi hB hn hj ht hSw (fun _ => h2) (h _ ?_)
                  rw [gv_on (by simp)]
                  exact hr.set (gd_slot ht hne (fun _ => h3) (fun e => absurd rfl e))
                · refine WD.gx (v := Go.undef) i hi hB hn hj ht hSw (fun hg => absurd (by simpa using hg) hbw) (h _ ?_)
                  rw [gv_off (by simpa using hbw)]
                  exact hr.set (gd_slot ht hne (fun e => absurd e hbw) (fun _ => rfl))
          · cases hp
theorem firstBnd_ok {z : Nat} : ∀ {is : List Nat} {i d : Nat} {v : BG}, firstBnd P n ops z listed s is = some (i, d, v) → ∃ o, ops[i]? = some o ∧ takeB ops z listed i = true ∧ bndAt P n ops o s = some (d, v)
  | [], _, _, _, h => by simp [firstBnd] at h
  | j :: is, i, d, v, h => by
    simp only [firstBnd] at h
    split at h
    · cases h
    · rename_i o ho
      split at h
      · rename_i d' v' hp
        cases h
        cases ht : takeB ops z listed j with
        | true => rw [ht] at hp; exact ⟨o, ho, by first | exact ht | rfl, hp⟩
        | false => rw [ht] at hp; cases hp
      · exact firstBnd_ok h
theorem map_pair {α β γ : Type 1} {x : Option α} {d d' : Nat} {f : α → β} {b : β} (h : x.map (fun b => (d, f b)) = some (d', b)) : d = d' ∧ ∃ a, x = some a ∧ f a = b := by
  cases x with
  | none => cases h
  | some a => cases h; exact ⟨rfl, a, rfl, rfl⟩
theorem bnd_on {S : World → Prop} {z fuel i dn : Nat} {o : Oper} {b : BV} {x : b.X} {K : Env → World → Prop} (hr : Rel Z s σs A L σ w) (hi : ops[i]? = some o) (hB : takeB ops z listed i = true) (hp : bndAt P n ops o s = some (dn, .on b)) (hx : b.E = some x) (hSw : S w)
    (h : ∀ σ', Rel Z (s.set dn (b.v x)) σs A L σ' w → WD P n ops S z fuel (listed.setIfInBounds i true) K σ' w) : WD P n ops S z (fuel + 1) listed K σ w := by
  obtain ⟨d, op, ty, pos, after, g⟩ := o
  have hm := hr.mem
  unfold bndAt at hp
  simp only at hp
  split at hp
  · cases hp
  · rename_i d'
    cases hn : Nat.blt d' n with
    | false => rw [hn] at hp; cases hp
    | true =>
      rw [hn] at hp
      simp only [Bool.not_true, cond_false] at hp; try dsimp only [cnd] at hp
      split at hp
      · cases hv : bnd P s op with
        | none => rw [hv] at hp; cases hp
        | some u =>
          rw [hv] at hp; cases hp
          obtain ⟨h1, val, h2, h3⟩ := bnd_ok hr hv hx
          exact WD.x i hi hB hn hSw (fun w' _ => h2 w') (h _ (hr.set (.put h1 h3)))
      · rename_i j want
        split at hp
        · cases hp
        · rename_i t hj
          split at hp
          · rename_i c hb
            have ht := slot_cst hm.sl hb
            cases hw : eqB want c with
            | true =>
              rw [hw] at hp
              dsimp only [cnd, cond] at hp
              cases hv : bnd P s op with
              | none => rw [hv] at hp; cases hp
              | some u =>
                rw [hv] at hp; cases hp
                obtain ⟨h1, val, h2, h3⟩ := bnd_ok hr hv hx
                have hbw : (c == want) = true := by rw [← eqB_beq]; exact hw
                refine WD.gx (v := val) i hi hB hn hj ht hSw (fun _ w' _ => h2 w') (h _ ?_)
                rw [gv_on hbw]
                exact hr.set (.put h1 h3)
            | false => rw [hw] at hp; cases hp
          · rename_i c hb
            cases hne : Nat.beq d' t with
            | true => rw [hne] at hp; cases hp
            | false =>
              rw [hne] at hp
              dsimp only [cnd, cond] at hp
              cases hv : bnd P (s.res t want) op with
              | none => rw [hv] at hp; cases hp
              | some u => rw [hv] at hp; cases hp
          · cases hp
theorem bnd_ask {S : World → Prop} {z fuel i dn t : Nat} {want bv : Bool} {o : Oper} {b : BV} {K : Env → World → Prop} {X : Go.Rx.S → Option R} (hr : Rel Z s σs A L σ w) (hi : ops[i]? = some o) (hB : takeB ops z listed i = true) (hp : bndAt P n ops o s = some (dn, .ask t want bv b)) (hSw : S w)
    (hx : (cnd (eqB want bv ) (Option.bind b.E fun x => X ((s.res t bv).set dn (b.v x)) ) <| X ((s.res t bv).set dn .off)) = some r)
    (h : ∀ s', s'.it = s.it → ∀ σ', Rel Z s' σs A L σ' w → X s' = some r → WD P n ops S z fuel (listed.setIfInBounds i true) K σ' w) : WD P n ops S z (fuel + 1) listed K σ w := by
  obtain ⟨d, op, ty, pos, after, g⟩ := o
  have hm := hr.mem
  unfold bndAt at hp
  simp only at hp
  split at hp
  · cases hp
  · rename_i d'
    cases hn : Nat.blt d' n with
    | false => rw [hn] at hp; cases hp
    | true =>
      rw [hn] at hp
      simp only [Bool.not_true, cond_false] at hp; try dsimp only [cnd] at hp
      split at hp
      · cases hv : bnd P s op with
        | none => rw [hv] at hp; cases hp
        | some u => rw [hv] at hp; cases hp
      · rename_i j want'
        split at hp
        · cases hp
        · rename_i t' hj
          split at hp
          · rename_i c hb
            cases hw : eqB want' c with
            | true =>
              rw [hw] at hp
              dsimp only [cnd, cond] at hp
              cases hv : bnd P s op with
              | none => rw [hv] at hp; cases hp
              | some u => rw [hv] at hp; cases hp
            | false => rw [hw] at hp; cases hp
          · rename_i c hb
            have ht := slot_bool hm.sl hb
            cases hne : Nat.beq d' t' with
            | true => rw [hne] at hp; cases hp
            | false =>
              rw [hne] at hp
              dsimp only [cnd, cond] at hp
              cases hv : bnd P (s.res t' want') op with
              | none => rw [hv] at hp; cases hp
              | some u =>
                rw [hv] at hp; cases hp
                cases hw : eqB want bv with
                | true =>
                  rw [hw] at hx
                  dsimp only [cnd, cond] at hx
                  obtain ⟨x, hx, hk⟩ := bind_some hx
                  have hbw : bv = want := by cases want <;> cases bv <;> simp_all [eqB]
                  subst hbw
                  obtain ⟨h1, val, h2, h3⟩ := bnd_ok (hr.res ht) hv hx
                  refine WD.gx (v := val) i hi hB hn hj ht hSw (fun _ w' _ => h2 w') (h ((s.res t bv).set dn (b.v x)) rfl _ ?_ hk)
                  rw [gv_on (by simp)]
                  exact (hr.res ht).set (.put h1 h3)
                | false =>
                  rw [hw] at hx
                  dsimp only [cnd, cond] at hx
                  have hbw : (bv == want) = false := by rw [← eqB_beq]; exact hw
                  refine WD.gx (v := Go.undef) i hi hB hn hj ht hSw (fun hg => by rw [hbw] at hg; cases hg) (h ((s.res t bv).set dn .off) rfl _ ?_ hx)
                  rw [gv_off hbw]
                  exact (hr.res ht).set (show upd σ dn Go.undef dn = Go.undef from upd_same _ _ _)
          · cases hp
theorem firstLd_ok {z : Nat} : ∀ {is : List Nat} {i : Nat} {v : Nat × TypeId × Nat × List Step}, firstLd n ops z listed s is = some (i, v) → ∃ o, ops[i]? = some o ∧ takeB ops z listed i = true ∧ ldAt n ops o s = some v
  | [], _, _, h => by simp [firstLd] at h
  | j :: is, i, v, h => by
    simp only [firstLd] at h
    split at h
    · cases h
    · rename_i o ho
      split at h
      · rename_i v' hp
        cases h
        cases ht : takeB ops z listed j with
        | true => rw [ht] at hp; exact ⟨o, ho, by first | exact ht | rfl, hp⟩
        | false => rw [ht] at hp; cases hp
      · exact firstLd_ok h
theorem ld_ok {d dn : Nat} {o : Op} {t : TypeId} {j : Nat} {p : List Step} {u : PV} {kk : PV → Option R} (hr : Rel Z s σs A L σ w) (hp : ldOp s d o = some (dn, t, j, p)) (h : getRoot (getIt s.it j) p kk = some r) :
    d = dn ∧ ∃ u, kk u = some r ∧ (okLoad P t u = true → u.isV = true ∧ ∃ val, (∀ w', Ext Z s σs A L σ w w' → XO P σ w' o val) ∧ ValR (fun b => A b ∧ Z.R b) w L u val) := by
  have hm := hr.mem
  unfold ldOp at hp
  split at hp
  · rename_i t' x
    split at hp
    · rename_i i p' hx
      split at hp
      · cases hp
      · rename_i hne
        cases hp
        obtain ⟨md, b, h1, h2, h3⟩ := valR_ptr (opn_eq hm.sl hx rfl)
        obtain ⟨h4, _⟩ := hm.root h1 (fun e => hne e)
        obtain ⟨u, c1, c2, c3, hk, he, h5, h6⟩ := getRoot_ok h h4
        refine ⟨rfl, u, hk, fun hb => ?_⟩
        obtain ⟨val, h7, h8⟩ := load_cellsW (P := P) (σ := σ) (x := x) (b := b) (off := pathOff p) (okLoad_ok hb) h6 h3
        obtain ⟨hv, hv'⟩ := encV_valR h7
        refine ⟨hv, val, fun w' hext => h8 w' fun q hq => ?_, hv'⟩
        obtain ⟨A', L', it', ha, hr'⟩ := hext.ex
        have h10 : (L ++ L')[j]? = some md := by rw [List.getElem?_append_left (List.getElem?_eq_some_iff.1 h1).1]; exact h1
        rw [hr'.cells h10 h2 _ (by rw [he]; simp; omega), he, List.getElem?_append_right (by omega), h5, show pathOff p + q - pathOff p = q by omega, List.getElem?_append_left hq]
    · cases hp
  · cases hp
theorem ld_on {S : World → Prop} {z fuel i dn j : Nat} {t : TypeId} {p : List Step} {o : Oper} {kk : PV → Option R} {K : Env → World → Prop} (hr : Rel Z s σs A L σ w) (hi : ops[i]? = some o) (hB : takeB ops z listed i = true) (hp : ldAt n ops o s = some (dn, t, j, p)) (hg : getRoot (getIt s.it j) p kk = some r) (hSw : S w)
    (hS : ∀ w', S w' → Ext Z s σs A L σ w w') (hkk : ∀ u, kk u = some r → okLoad P t u = true)
    (h : ∀ u σ', kk u = some r → Rel Z (s.set dn u) σs A L σ' w → WD P n ops S z fuel (listed.setIfInBounds i true) K σ' w) : WD P n ops S z (fuel + 1) listed K σ w := by
  obtain ⟨d, op, ty, pos, after, g⟩ := o
  have hm := hr.mem
  unfold ldAt at hp
  simp only at hp
  split at hp
  · cases hp
  · rename_i d'
    cases hn : Nat.blt d' n with
    | false => rw [hn] at hp; cases hp
    | true =>
      rw [hn] at hp
      simp only [Bool.not_true, cond_false] at hp; try dsimp only [cnd] at hp
      split at hp
      · obtain ⟨rfl, u, hk, hu⟩ := ld_ok (P := P) (u := .undef) hr hp hg
        obtain ⟨h1, val, h2, h3⟩ := hu (hkk u hk)
        exact WD.x i hi hB hn hSw (fun w' hw => h2 w' (hS w' hw)) (h u _ hk (hr.set (.put h1 h3)))
      · rename_i q want
        split at hp
        · cases hp
        · rename_i t' hj
          split at hp
          · rename_i c hb
            have ht := slot_cst hm.sl hb
            cases hw : eqB want c with
            | true =>
              rw [hw] at hp
              dsimp only [cnd, cond] at hp
              obtain ⟨rfl, u, hk, hu⟩ := ld_ok (P := P) (u := .undef) hr hp hg
              obtain ⟨h1, val, h2, h3⟩ := hu (hkk u hk)
              have hbw : (c == want) = true := by rw [← eqB_beq]; exact hw
              refine WD.gx (v := val) i hi hB hn hj ht hSw (fun _ w' hw => h2 w' (hS w' hw)) (h u _ hk ?_)
              rw [gv_on hbw]
              exact hr.set (.put h1 h3)
            | false => rw [hw] at hp; cases hp
          · cases hp
theorem exD_ok (hT : TabZ P T Z) (hI : InlOk P T.gl inl) : ∀ {fuel z0 : Nat} {listed : Array Bool} {s : S} {A : Reg} {L : List MD} {σ : Env} {w : World} {S : World → Prop}, Rel Z s σs A L σ w → exD P T inl n mem ops fuel z0 listed s k = some r →
    (mem = true → overB z0 listed = true ∨ ∀ w', ExtM Z σs A L s.it w w' → S w') → (mem = false → ∀ w, S w) →
    WD P n ops S z0 fuel listed (fun σ' w' => ∃ s' A' L', k s' = some r ∧ Rel Z s' σs A' L' σ' w') σ w := by
  intro fuel
  induction fuel with
  | zero =>
    intro z0 listed s A L σ w S hr h hI1 hI2
    unfold exD at h
    split at h
    · rename_i hrd; exact WD.done hrd ⟨s, A, L, h, hr⟩
    · cases h
  | succ fuel ih =>
    intro z0 listed s A L σ w S hr h hI1 hI2
    unfold exD at h
    split at h
    · rename_i hrd; exact WD.done hrd ⟨s, A, L, h, hr⟩
    · rename_i i is hrd
      simp only at h
      -- the window
      have main : ∀ (z : Nat) (S : World → Prop), (mem = true → ∀ w', ExtM Z σs A L s.it w w' → S w') → (mem = false → ∀ w, S w) →
          (match firstPure P n mem ops z listed s (i :: is) with
            | some (i, d, v) => exD P T inl n mem ops fuel z (listed.setIfInBounds i true) (s.set d v) k
            | none => match firstBnd P n ops z listed s (i :: is) with
              | some (i, d, .on b) => Option.bind b.E fun x => exD P T inl n mem ops fuel z (listed.setIfInBounds i true) (s.set d (b.v x)) k
              | some (i, d, .ask t want bv b) => if bv = true then
                  (cnd (eqB want true ) (Option.bind b.E fun x => exD P T inl n mem ops fuel z (listed.setIfInBounds i true) ((s.res t true).set d (b.v x)) k ) <| exD P T inl n mem ops fuel z (listed.setIfInBounds i true) ((s.res t true).set d .off) k)
                  else (cnd (eqB want false ) (Option.bind b.E fun x => exD P T inl n mem ops fuel z (listed.setIfInBounds i true) ((s.res t false).set d (b.v x)) k ) <| exD P T inl n mem ops fuel z (listed.setIfInBounds i true) ((s.res t false).set d .off) k)
              | none => match (cnd (mem ) (firstLd n ops z listed s (i :: is) ) <| none) with
              | some (i, d, t, j, p) => getRoot (getIt s.it j) p fun u => cnd (okLoad P t u ) (exD P T inl n mem ops fuel z (listed.setIfInBounds i true) (s.set d u) k ) <| none
              | none => both (match ops[i]? with
                | some o => cnd (mem && !((nbk T s o && gOk ops s o) || (!Nat.blt i z && overB z (listed.setIfInBounds i true))) ) (none ) <|
                  exOp P T inl n ops o s fun s' => exD P T inl n mem ops fuel z (listed.setIfInBounds i true) s' k
                | none => none) (is.map fun i => match ops[i]? with
                | some o => cnd (mem && !((nbk T s o && gOk ops s o) || (!Nat.blt i z && overB z (listed.setIfInBounds i true))) ) (none ) <|
                  exOp P T inl n ops o s fun s' => exD P T inl n mem ops fuel z (listed.setIfInBounds i true) s' k
                | none => none)) = some r → WD P n ops S z (fuel + 1) listed (fun σ' w' => ∃ s' A' L', k s' = some r ∧ Rel Z s' σs A' L' σ' w') σ w := by
        intro z S hS1 hS2 h
        split at h
        · rename_i i' d v hp
          obtain ⟨o, ho, hB, hp⟩ := firstPure_ok hp
          cases hmem : mem with
          | true =>
            subst hmem
            refine WD.strong (S' := ExtM Z σs A L s.it w) (hS1 rfl) (take_ok hr ho hB hp (.refl hr) (fun _ w' hw => hw.ext hr) fun σ' hr' => ?_)
            exact ih hr' h (fun _ => .inr fun w' hw => hw) (fun e => by cases e)
          | false =>
            subst hmem
            refine take_ok hr ho hB hp (hS2 rfl _) (fun e => by cases e) fun σ' hr' => ?_
            exact ih hr' h (fun e => by cases e) hS2
        · split at h
          · rename_i i' d b hp
            obtain ⟨o, ho, hB, hp⟩ := firstBnd_ok hp
            obtain ⟨x, hx, h⟩ := bind_some h
            cases hmem : mem with
            | true =>
              subst hmem
              refine WD.strong (S' := ExtM Z σs A L s.it w) (hS1 rfl) (bnd_on hr ho hB hp hx (.refl hr) fun σ' hr' => ?_)
              exact ih hr' h (fun _ => .inr fun w' hw => hw) (fun e => by cases e)
            | false =>
              subst hmem
              refine bnd_on hr ho hB hp hx (hS2 rfl _) fun σ' hr' => ?_
              exact ih hr' h (fun e => by cases e) hS2
          · rename_i i' d t want bv b hp
            obtain ⟨o, ho, hB, hp⟩ := firstBnd_ok hp
            have h : (cnd (eqB want bv ) (Option.bind b.E fun x => exD P T inl n mem ops fuel z (listed.setIfInBounds i' true) ((s.res t bv).set d (b.v x)) k ) <| exD P T inl n mem ops fuel z (listed.setIfInBounds i' true) ((s.res t bv).set d .off) k) = some r := by
              cases bv with
              | true => simpa using h
              | false => simpa using h
            cases hmem : mem with
            | true =>
              subst hmem
              refine WD.strong (S' := ExtM Z σs A L s.it w) (hS1 rfl) (bnd_ask (X := fun s' => exD P T inl n true ops fuel z (listed.setIfInBounds i' true) s' k) hr ho hB hp (.refl hr) h fun s' hs' σ' hr' h => ?_)
              exact ih hr' h (fun _ => .inr fun w' hw => hs' ▸ hw) (fun e => by cases e)
            | false =>
              subst hmem
              refine bnd_ask (X := fun s' => exD P T inl n false ops fuel z (listed.setIfInBounds i' true) s' k) hr ho hB hp (hS2 rfl _) h fun s' hs' σ' hr' h => ?_
              exact ih hr' h (fun e => by cases e) hS2
          · split at h
            · rename_i i' d t j p hp
              cases hmem : mem with
              | false => rw [hmem] at hp; cases hp
              | true =>
                subst hmem
                dsimp only [cnd, cond] at hp
                obtain ⟨o, ho, hB, hp⟩ := firstLd_ok hp
                refine WD.strong (S' := ExtM Z σs A L s.it w) (hS1 rfl) (ld_on (P := P) hr ho hB hp h (.refl hr) (fun w' hw => hw.ext hr) (fun u hu => (bif_some hu).1) fun u σ' hu hr' => ?_)
                exact ih hr' (bif_some hu).2 (fun _ => .inr fun w' hw => hw) (fun e => by cases e)
            obtain ⟨h1, h2⟩ := both_ok h
            refine WD.steps hrd rfl ?_
            intro q hq
            have hone : (match ops[q]? with
                  | some o => cnd (mem && !((nbk T s o && gOk ops s o) || (!Nat.blt q z && overB z (listed.setIfInBounds q true))) ) (none ) <|
                    exOp P T inl n ops o s fun s' => exD P T inl n mem ops fuel z (listed.setIfInBounds q true) s' k
                  | none => none) = some r := by
              rcases List.mem_cons.1 hq with rfl | hq
              · exact h1
              · exact h2 _ (List.mem_map_of_mem hq)
            split at hone
            · rename_i o ho
              refine ⟨o, ho, ?_⟩
              cases hc : (mem && !((nbk T s o && gOk ops s o) || (!Nat.blt q z && overB z (listed.setIfInBounds q true)))) with
              | true => rw [hc] at hone; cases hone
              | false =>
                rw [hc] at hone
                dsimp only [cnd, cond] at hone
                refine WL_mono (exOp_ok hT hI hr hone) ?_
                rintro σ' w' ⟨s', A', L', g1, g2, g3⟩
                cases hmem : mem with
                | true =>
                  subst hmem
                  simp only [Bool.true_and, Bool.not_eq_false', Bool.or_eq_true, Bool.and_eq_true, Bool.not_eq_true'] at hc
                  rcases hc with hc | ⟨hc1, hc2⟩
                  · have g4 := g3 hc
                    refine ⟨fun _ => hS1 rfl _ ⟨s', σ', A', L', g2, g4⟩, ih g2 g1 (fun _ => .inr fun w'' hw => ?_) (fun e => by cases e)⟩
                    obtain ⟨s2, σ2, A2, L2, h5, h6⟩ := hw
                    exact hS1 rfl _ ⟨s2, σ2, A2, L2, h5, g4.trans h6⟩
                  · refine ⟨fun hlt => ?_, ih g2 g1 (fun _ => .inl hc2) (fun e => by cases e)⟩
                    have : Nat.blt q z = true := by simpa [Nat.blt_eq] using hlt
                    rw [this] at hc1; cases hc1
                | false =>
                  subst hmem
                  exact ⟨fun _ => hS2 rfl _, ih g2 g1 (fun e => by cases e) hS2⟩
            · cases hone
      cases hz : (mem && overB z0 listed) with
      | true =>
        rw [hz] at h
        simp only [Bool.and_eq_true] at hz
        obtain ⟨hm, hov⟩ := hz
        subst hm
        exact WD.next (S' := ExtM Z σs A L s.it w) _ hov (main _ _ (fun _ w' hw => hw) (fun e => by cases e) h)
      | false =>
        rw [hz] at h
        refine main _ _ (fun hm => ?_) hI2 h
        subst hm
        rcases hI1 rfl with h1 | h1
        · rw [h1] at hz; cases hz
        · exact h1
end Go.Rx

set_option linter.unusedVariables false
set_option linter.unusedSimpArgs false
namespace Go.Rx
open Go Go.Lv
variable {P : Program} {B B' : Reg} {w w' : World} {L L' : List MD} {s : S} {σs : List Env} {σ : Env} {Z : Fix} {A A' : Reg} {n : Nat} {ops : Array Oper}
variable {R : Type} {k : S → Option R} {r : R}

/-! ### parts of the memory, picked by number -/
def MobsI (w : World) (A : Reg) (L : List Mob) (os : Nat → Option Nat) : Prop :=
  (∀ (i : Nat) (m : Mob), L[i]? = some m → m.holds (os i) w ∧ ∀ b, os i = some b → ¬ A b ∧ b < w.heap.size) ∧ ∀ i j b, i < L.length → j < L.length → i ≠ j → os i = some b → os j ≠ some b
theorem Mobs.toI : ∀ {L : List Mob} {A : Reg}, Mobs w A L → ∃ os, MobsI w A L os
  | [], A, _ => ⟨fun _ => none, fun i m h => by simp at h, fun i j b h => by simp at h⟩
  | m :: L, A, ⟨o, h1, h2, h3⟩ => by
    obtain ⟨os, g1, g2⟩ := Mobs.toI h3
    refine ⟨fun i => match i with | 0 => o | i + 1 => os i, fun i m' h => ?_, fun i j b hi hj hij h => ?_⟩
    · cases i with
      | zero => simp at h; subst h; exact ⟨h1, h2⟩
      | succ i =>
        obtain ⟨g3, g4⟩ := g1 i m' (by simpa using h)
        exact ⟨g3, fun b hb => ⟨fun hA => (g4 b hb).1 (.inl hA), (g4 b hb).2⟩⟩
    · have key : ∀ q, q < L.length → ∀ b, os q = some b → o ≠ some b := fun q hq b hb ho => by
        exact ((g1 q L[q] (by simp [hq])).2 b hb).1 (.inr ho)
      cases i with
      | zero =>
        cases j with
        | zero => exact absurd rfl hij
        | succ j => intro hb; exact key j (by simpa using hj) b hb h
      | succ i =>
        cases j with
        | zero => exact key i (by simpa using hi) b h
        | succ j => exact g2 i j b (by simpa using hi) (by simpa using hj) (by omega) h
theorem Mobs.ofI : ∀ {L : List Mob} {A : Reg} {os : Nat → Option Nat}, MobsI w A L os → Mobs w A L
  | [], _, _, _ => trivial
  | m :: L, A, os, ⟨g1, g2⟩ => by
    obtain ⟨h1, h2⟩ := g1 0 m rfl
    refine ⟨os 0, h1, h2, Mobs.ofI (os := fun i => os (i + 1)) ⟨fun i m' h => ?_, fun i j b hi hj hij h => ?_⟩⟩
    · obtain ⟨g3, g4⟩ := g1 (i + 1) m' (by simpa using h)
      refine ⟨g3, fun b hb => ⟨fun hA => ?_, (g4 b hb).2⟩⟩
      rcases hA with hA | hA
      · exact (g4 b hb).1 hA
      · have hlt : i < L.length := (List.getElem?_eq_some_iff.1 h).1
        exact g2 0 (i + 1) b (by simp) (by simpa using hlt) (by omega) hA hb
    · exact g2 (i + 1) (j + 1) b (by simpa using hi) (by simpa using hj) (by omega) h
def distinct : List Nat → Bool | [] => true | i :: r => !elemB i r && distinct r
theorem distinct_get : ∀ {l : List Nat} {i j q : Nat}, distinct l = true → l[i]? = some q → l[j]? = some q → i = j
  | [], _, _, _, _, h, _ => by simp at h
  | a :: l, i, j, q, hd, hi, hj => by
    simp only [distinct, Bool.and_eq_true, Bool.not_eq_true'] at hd
    have hn : a ∉ l := fun h => by have := elemB_mem.2 h; rw [hd.1] at this; cases this
    cases i with
    | zero =>
      cases j with
      | zero => rfl
      | succ j => simp at hi hj; subst hi; exact absurd (List.mem_of_getElem? hj) hn
    | succ i =>
      cases j with
      | zero => simp at hi hj; subst hj; exact absurd (List.mem_of_getElem? hi) hn
      | succ j => exact congrArg (· + 1) (distinct_get (q := q) hd.2 (by simpa using hi) (by simpa using hj))
theorem dead_holds {w : World} : MD.dead.mob.holds none w := ⟨none, 0, 0, rfl, by simp, Nat.le_refl _, fun _ => rfl, fun _ => rfl, fun b h => by cases h⟩
theorem getD_some {i : Nat} {md : MD} (h : L[i]? = some md) : L.getD i .dead = md := by simp [List.getD_eq_getElem?_getD, h]
theorem getD_none {i : Nat} (h : L[i]? = none) : L.getD i .dead = .dead := by simp [List.getD_eq_getElem?_getD, h]
def pickO (o : List Nat) (L : List MD) (os : Nat → Option Nat) (j : Nat) : Option Nat := match o[j]? with | some i => (match L[i]? with | some _ => os i | none => none) | none => none
theorem pickO_some {o : List Nat} {os : Nat → Option Nat} {i j : Nat} {md : MD} (h : o[j]? = some i) (hL : L[i]? = some md) : pickO o L os j = os i := by unfold pickO; rw [h]; simp only [hL]
theorem pickO_none {o : List Nat} {os : Nat → Option Nat} {i j : Nat} (h : o[j]? = some i) (hL : L[i]? = none) : pickO o L os j = none := by unfold pickO; rw [h]; simp only [hL]
/-- A choice of parts, each at most once. -/
theorem pick_mobs {o : List Nat} (h : Mobs w A (L.map MD.mob)) (hd : distinct o = true) : Mobs w A ((o.map fun i => L.getD i .dead).map MD.mob) := by
  obtain ⟨os, g1, g2⟩ := Mobs.toI h
  refine Mobs.ofI (os := pickO o L os) ⟨fun j m hm => ?_, fun i j b hi hj hij hb => ?_⟩
  · simp only [List.map_map, List.getElem?_map, Option.map_eq_some_iff, Function.comp] at hm
    obtain ⟨i, hi, rfl⟩ := hm
    cases hL : L[i]? with
    | none => rw [getD_none hL, pickO_none hi hL]; exact ⟨dead_holds, fun b hb => by cases hb⟩
    | some md => rw [getD_some hL, pickO_some hi hL]; exact g1 i md.mob (by simp [hL])
  · simp only [List.length_map] at hi hj
    have e1 : o[i]? = some o[i] := by simp [hi]
    have e2 : o[j]? = some o[j] := by simp [hj]
    have hne : o[i] ≠ o[j] := fun e => hij (distinct_get hd e1 (by rw [e2, e]))
    cases hL1 : L[o[i]]? with
    | none => rw [pickO_none e1 hL1] at hb; cases hb
    | some m1 =>
      rw [pickO_some e1 hL1] at hb
      cases hL2 : L[o[j]]? with
      | none => rw [pickO_none e2 hL2]; simp
      | some m2 =>
        rw [pickO_some e2 hL2]
        exact g2 _ _ b (by simpa using (List.getElem?_eq_some_iff.1 hL1).1) (by simpa using (List.getElem?_eq_some_iff.1 hL2).1) hne hb

/-! ### other numbers -/
theorem posOf_ok {i : Nat} : ∀ {o : List Nat} {m j : Nat}, posOf i o m = some j → ∃ q, j = m + q ∧ o[q]? = some i
  | [], _, _, h => by simp [posOf] at h
  | a :: o, m, j, h => by
    simp only [posOf] at h
    cases hb : Nat.beq i a with
    | true => rw [hb] at h; cases h; exact ⟨0, rfl, by simp [nat_beq hb]⟩
    | false =>
      rw [hb] at h
      obtain ⟨q, h1, h2⟩ := posOf_ok (o := o) h
      exact ⟨q + 1, by omega, by simpa using h2⟩
theorem posOf_get {o : List Nat} {i j : Nat} {md : MD} (h : posOf i o 0 = some j) (hL : L[i]? = some md) : (o.map fun i => L.getD i .dead)[j]? = some md := by
  obtain ⟨q, h1, h2⟩ := posOf_ok h
  rw [Nat.zero_add] at h1; subst h1
  simp [h2, List.getD_eq_getElem?_getD, hL]
theorem ren_isA {o : List Nat} {p : PV} : (ren o p).isA = p.isA := by
  cases p <;> try rfl
  · simp only [ren]; split <;> rfl
  · simp only [ren]; split <;> rfl
  · simp only [ren]; split <;> rfl
abbrev oneL (L : List MD) : Prop := L.all (fun m => match m with | .own _ _ v _ => v.oneCell' | _ => true) = true
mutual
theorem ren_enc {o : List Nat} (h1 : oneL L) : ∀ {p : PV} {cs : List Value}, EncC B w L p cs → EncC B w (o.map fun i => L.getD i .dead) (ren o p) cs
  | .val _ x, cs, h => h
  | .agg q, cs, h => ren_encL h1 (show EncC.go B w L q cs from h)
  | .tup _, _, h => h.elim
  | .nils, cs, h => h
  | .own j, cs, ⟨z, E, v, c, g1, g2⟩ => by
    simp only [ren]
    split
    · rename_i j' hj; exact ⟨z, E, v, c, posOf_get hj g1, g2⟩
    · exact ⟨v, g2, List.all_eq_true.1 h1 _ (List.mem_of_getElem? g1)⟩
  | .ptr j q, cs, ⟨md, b, g1, g2, g3⟩ => by
    simp only [ren]
    split
    · rename_i j' hj; exact ⟨md, b, posOf_get hj g1, g2, g3⟩
    · exact ⟨_, g3, rfl⟩
  | .view u j p e lo n, cs, ⟨md, v, g1, g2, g3⟩ => by
    simp only [ren]
    split
    · rename_i j' hj; exact ⟨md, v, posOf_get hj g1, g2, g3⟩
    · obtain ⟨_, _, ⟨pt, cap, e', _⟩, _⟩ := g3
      exact ⟨v, g2, by rw [e']; rfl⟩
  | .rptr v, cs, ⟨pv, c0, g1, g2, g3⟩ => ⟨pv, c0, g1, g2, ren_enc h1 g3⟩
  | .fn f caps, cs, ⟨vs, g1, g2⟩ => ⟨vs, g1, ren_encV h1 g2⟩
  | .cst v, cs, h => h
  | .any, cs, h => h
  | .gd _ _ _, _, h => h.elim
  | .off, _, h => h.elim
  | .undef, _, h => h.elim
theorem ren_encL {o : List Nat} (h1 : oneL L) : ∀ {q : List PV} {cs : List Value}, EncC.go B w L q cs → EncC.go B w (o.map fun i => L.getD i .dead) (ren.go o q) cs
  | [], cs, h => h
  | a :: q, cs, ⟨c1, c2, e', g1, g2⟩ => ⟨c1, c2, e', ren_enc h1 g1, ren_encL h1 g2⟩
theorem ren_encV {o : List Nat} (h1 : oneL L) : ∀ {q : List PV} {vs : List Value}, EncVs B w L q vs → EncVs B w (o.map fun i => L.getD i .dead) (ren.go o q) vs
  | [], vs, h => h
  | a :: q, vs, ⟨v, vs', e', g1, g2⟩ => ⟨v, vs', e', by rw [ren_isA]; exact g1.mono fun c h => ren_enc h1 h, ren_encV h1 g2⟩
end
theorem ren_valR {o : List Nat} (h1 : oneL L) {p : PV} {v : Value} (h : ValR B w L p v) : ValR B w (o.map fun i => L.getD i .dead) (ren o p) v := by
  cases hp : p.isP with
  | true =>
    have h2 : EncV B w (o.map fun i => L.getD i .dead) (ren o p) v := by
      unfold EncV; rw [ren_isA]; exact asV.mono (fun c h => ren_enc h1 h) ((valR_P hp).1 h)
    exact (encV_valR h2).2
  | false =>
    cases p
    case tup q => obtain ⟨vs, g1, g2⟩ := h; exact ⟨vs, g1, ren_encV h1 g2⟩
    case undef => exact (show False from h).elim
    case off => exact (show False from h).elim
    case gd => exact (show False from h).elim
    all_goals cases hp
theorem ren_slotR {o : List Nat} (h1 : oneL L) {t : Nat} {p : PV} (h : SlotR B w L σ t p) : SlotR B w (o.map fun i => L.getD i .dead) σ t (ren o p) := by
  cases hv : p.isV with
  | true =>
    have g1 := ren_valR (o := o) h1 ((SlotR.iff hv).1 h)
    have g2 : (ren o p).isV = true := by
      cases p <;> first | rfl | cases hv | skip
      · simp only [ren]; split <;> rfl
      · simp only [ren]; split <;> rfl
      · simp only [ren]; split <;> rfl
    exact (SlotR.iff g2).2 g1
  | false =>
    rcases isV_false hv with rfl | rfl | ⟨j, u, q, rfl⟩
    · exact trivial
    · exact h
    · obtain ⟨b, g1, g2, g3⟩ := h
      exact ⟨b, g1, fun e => ren_valR h1 (g2 e), g3⟩
theorem ren_slotsR {o : List Nat} (h1 : oneL L) {sl : Slots} (h : SlotsR B w L σ sl) : SlotsR B w (o.map fun i => L.getD i .dead) σ (renSl o sl) := by
  intro p hp
  obtain ⟨q, hq, rfl⟩ := List.mem_map.1 hp
  exact ren_slotR h1 (h q hq)
theorem ren_stackR {o : List Nat} (h1 : oneL L) : ∀ {σs : List Env} {st : List Slots}, StackR B w L σs st → StackR B w (o.map fun i => L.getD i .dead) σs (st.map (renSl o))
  | [], [], h => h
  | _ :: _, _ :: _, ⟨g1, g2⟩ => ⟨ren_slotsR h1 g1, ren_stackR h1 g2⟩
theorem ren_itemR {o : List Nat} (h1 : oneL L) {a : Item} {md : MD} (h : ItemR B w L a md) : ItemR B w (o.map fun i => L.getD i .dead) (renIt o a) md := by
  cases a <;> cases md <;> first
    | exact h
    | exact ⟨h.1, ren_enc h1 h.2⟩
theorem keepS_ok {sl : Slots} (h : SlotsR B w L σ sl) : ∀ (lv : List Nat), SlotsR B w L σ (keepS sl lv)
  | [] => fun p hp => by simp [keepS] at hp
  | t :: lv => by
    intro p hp
    simp only [keepS] at hp
    split at hp
    · exact keepS_ok h lv p hp
    · exact keepS_ok h lv p hp
    · exact keepS_ok h lv p hp
    · rcases List.mem_cons.1 hp with rfl | hp
      · exact getS_slot (s := ⟨sl, [], []⟩) (t := t) h
      · exact keepS_ok h lv p hp
theorem distinct_snoc : ∀ {l : List Nat} {i : Nat}, distinct l = true → elemB i l = false → distinct (l ++ [i]) = true
  | [], _, _, _ => rfl
  | a :: l, i, hd, hi => by
    simp only [distinct, Bool.and_eq_true, Bool.not_eq_true'] at hd
    simp only [elemB, Bool.or_eq_false_iff] at hi
    simp only [List.cons_append, distinct, Bool.and_eq_true, Bool.not_eq_true']
    refine ⟨?_, distinct_snoc hd.2 hi.2⟩
    cases hx : elemB a (l ++ [i]) with
    | false => rfl
    | true =>
      rcases List.mem_append.1 (elemB_mem.1 hx) with h | h
      · have := elemB_mem.2 h; rw [hd.1] at this; cases this
      · simp at h; subst h; simp at hi
theorem reach_distinct {it : List Item} : ∀ (q : Nat) (todo seen : List Nat), distinct seen = true → distinct (reach it q todo seen) = true
  | 0, _, _, h => h
  | _ + 1, [], _, h => h
  | q + 1, i :: todo, seen, h => by
    simp only [reach]
    cases he : elemB i seen with
    | true => exact reach_distinct q _ _ h
    | false => exact reach_distinct q _ _ (distinct_snoc h he)
theorem canon_ok (hr : Rel Z s σs A L σ w) (lv : List Nat) : ∃ L', Rel Z (s.canon lv) σs A L' σ w := by
  have hm := hr.mem
  have h1 : oneL L := hr.oneL
  unfold S.canon
  simp only
  generalize ho : reach s.it 200 (slLabs (keepS s.sl lv) ++ (s.st.map slLabs).flatten) [] = o
  have hd : distinct o = true := by rw [← ho]; exact reach_distinct _ _ _ rfl
  refine ⟨o.map fun i => L.getD i .dead, ?_⟩
  have hst : St A w [encF Z.R L s σs σ, .old Z.M Z.w0] ((o.map fun i => L.getD i .dead).map MD.mob) := ⟨St.lt hr, St.facts hr, pick_mobs (St.mobs hr) hd⟩
  refine Rel.as hst (i := 1) rfl ⟨⟨by simp, fun j a m g1 g2 => ?_⟩, ren_slotsR h1 (keepS_ok hm.sl lv), ren_stackR h1 hm.stk⟩ rfl
  simp only [List.getElem?_map, Option.map_eq_some_iff] at g1 g2
  obtain ⟨i, g3, rfl⟩ := g1
  obtain ⟨i', g4, rfl⟩ := g2
  rw [g3] at g4; cases g4
  cases hi : getIt s.it i with
  | dead => exact trivial
  | box T v =>
    obtain ⟨md, g5, g6⟩ := hm.item hi (by intro e; cases e)
    rw [getD_some g5]
    exact ren_itemR h1 g6
  | arr E e l =>
    obtain ⟨md, g5, g6⟩ := hm.item hi (by intro e; cases e)
    rw [getD_some g5]
    exact ren_itemR h1 g6

/-! ### what a cut asks of slices -/
theorem atV_ok : ∀ {p : List Nat} {v u : PV} {cs : List Value}, atV v p = some u → EncC B w L v cs → (∃ c, EncC B w L u c) ∧ ∀ (B' : Reg) (w' : World) (L' : List MD) (m v' : PV), (∀ q c, EncC B w L q c → EncC B' w' L' q c) → (∀ c, EncC B w L u c → EncC B' w' L' m c) → m.isA = u.isA → putV m v p = some v' → EncC B' w' L' v' cs ∧ v'.isA = v.isA
  | [], v, u, cs, h, hv => by
    simp only [atV, Option.some.injEq] at h; subst h
    refine ⟨⟨cs, hv⟩, fun B' w' L' m v' _ hm hA hp => ?_⟩
    simp only [putV, Option.some.injEq] at hp; subst hp
    exact ⟨hm _ hv, hA⟩
  | i :: p, v, u, cs, h, hv => by
    cases v <;> simp only [atV, reduceCtorEq] at h
    rename_i l
    split at h
    · rename_i f hf
      obtain ⟨c1, c2, c3, e, h1, h2, h3⟩ := EncC.field (show EncC.go B w L l cs from hv) hf
      obtain ⟨g1, g2⟩ := atV_ok h h2
      refine ⟨g1, fun B' w' L' m v' hq hm hA hp => ?_⟩
      simp only [putV, hf] at hp
      split at hp
      · rename_i f' hf'
        cases hp
        obtain ⟨g3, _⟩ := g2 B' w' L' m f' hq hm hA hf'
        refine ⟨?_, rfl⟩
        have hl : EncC.go B' w' L' l cs := show EncC B' w' L' (.agg l) cs from hq _ _ hv
        obtain ⟨d1, d2, d3, e', k1, k2, k3⟩ := EncC.field hl hf
        have : d2 = c2 := by
          have l1 : d1.length = c1.length := k1.trans h1.symm
          have l2 : d2.length = c2.length := k2.len.trans h2.len.symm
          rw [e] at e'
          obtain ⟨e1, e2⟩ := List.append_inj e' l1.symm
          obtain ⟨e3, _⟩ := List.append_inj e2 l2.symm
          exact e3.symm
        rw [e']
        exact k3 _ _ (by rw [this]; exact g3)
      · cases hp
    · cases h
theorem nil_push (hr : Rel Z s σs A L σ w) (E : TypeId) (e : ET) : Rel Z (s.add (.arr E e [])) σs A (L ++ [.own e.size E (.slice none 0 0) []]) σ w :=
  Rel.push (a := .arr E e []) (md := .own e.size E (.slice none 0 0) []) (St.addNil hr e.size E) ⟨rfl, rfl, rfl⟩
theorem rel_updBox {i b : Nat} {T : TypeId} {v' : PV} {cells : List Value} (hr : Rel Z s σs A L σ w) (hL : L[i]? = some (.box b cells T)) (hv : EncC (fun b => A b ∧ Z.R b) w L v' cells) : Rel Z (s.upd i (.box T v')) σs A L σ w := by
  have hm := hr.mem
  refine Rel.as hr (i := 1) rfl ⟨⟨by simp [S.upd, setIt_len, hm.it.1], fun j a m h1 h2 => ?_⟩, hm.sl, hm.stk⟩ rfl
  simp only [S.upd] at h1
  rcases setIt_get h1 with ⟨rfl, rfl⟩ | ⟨_, h4⟩
  · rw [hL] at h2; cases h2; exact ⟨rfl, hv⟩
  · exact hm.it.2 j a m h4 h2
theorem repS_mem {t : Nat} {m : PV} : ∀ {sl : Slots} {q : Nat} {v : PV}, (q, v) ∈ repS t m sl → (q, v) ∈ sl ∨ (q = t ∧ v = m)
  | [], _, _, h => by simp [repS] at h
  | (q', v') :: r, q, v, h => by
    simp only [repS] at h
    cases hb : Nat.beq q' t with
    | true =>
      rw [hb] at h
      rcases List.mem_cons.1 h with h | h
      · cases h; exact .inr ⟨nat_beq hb, rfl⟩
      · exact .inl (.tail _ h)
    | false =>
      rw [hb] at h
      rcases List.mem_cons.1 h with h | h
      · cases h; exact .inl (.head _)
      · exact (repS_mem h).imp (.tail _) id
theorem rel_repS {t : Nat} {m : PV} (hr : Rel Z s σs A L σ w) (hm : SlotR (fun b => A b ∧ Z.R b) w L σ t m) : Rel Z ⟨repS t m s.sl, s.it, s.st⟩ σs A L σ w := by
  refine hr.slots rfl rfl ?_
  rintro ⟨q, v⟩ hp
  rcases repS_mem hp with h | ⟨rfl, rfl⟩
  · exact hr.mem.sl _ h
  · exact hm
theorem nil_list {e : ET} {c : List Value} (h : EncC B w L .nils c) : EncC B w L (.val (.list e) []) c := ⟨_, [], show c = _ from h, Rd.nil, rfl⟩
theorem getIt_add {a : Item} {i : Nat} {b : Item} (h : getIt s.it i = b) (hb : b ≠ .dead) : getIt (s.add a).it i = b := getIt_append h hb
theorem coe1_ok {a : At} {s' : S} (hr : Rel Z s σs A L σ w) (h : coe1 s a = some s') : ∃ A' L', Rel Z s' σs A' L' σ w := by
  have hm := hr.mem
  unfold coe1 at h
  simp only at h
  split at h
  · -- in a variable
    rename_i i hsl
    split at h
    · rename_i T v hi
      split at h
      · rename_i u hu
        obtain ⟨b, cells, hL, hv⟩ := hm.box hi
        split at h
        · rename_i E e _
          split at h
          · rename_i v' hv'
            cases h
            obtain ⟨_, g⟩ := atV_ok hu hv
            have hr2 := nil_push hr E e
            have hL2 : (L ++ [.own e.size E (.slice none 0 0) []])[i]? = some (.box b cells T) := by rw [List.getElem?_append_left (List.getElem?_eq_some_iff.1 hL).1]; exact hL
            obtain ⟨g1, _⟩ := g (fun b => A b ∧ Z.R b) w (L ++ [.own e.size E (.slice none 0 0) []]) (.own s.new) v' (fun q c h => EncC.step (fun _ h => h) (fun _ _ => rfl) (LeL.append _ _) h)
              (fun c hc => ⟨e.size, E, _, [], by rw [S.new, hr.len]; simp, hc⟩) rfl hv'
            exact ⟨_, _, rel_updBox hr2 hL2 g1⟩
          · cases h
        · cases h; exact ⟨A, L, hr⟩
        · rename_i e _
          split at h
          · rename_i v' hv'
            cases h
            obtain ⟨_, g⟩ := atV_ok hu hv
            obtain ⟨g1, _⟩ := g (fun b => A b ∧ Z.R b) w L (.val (.list e) []) v' (fun q c h => h) (fun c hc => nil_list hc) rfl hv'
            exact ⟨_, _, rel_updBox hr hL g1⟩
          · cases h
        · obtain ⟨A', h1, _⟩ := rel_freeze hr h; exact ⟨A', _, h1⟩
        · cases h; exact ⟨A, L, hr⟩
        · cases h
      · cases h
    · cases h
  · -- parts of an array of one's own
    rename_i o i p e1 lo n hsl
    split at h
    · rename_i E e _ _
      obtain ⟨hb, h⟩ := bif_some h
      split at h
      · rename_i s1 j h1
        cases h
        have hx : opn s.sl (.tmp a.t) = .view o i p e1 lo n := by simp only [opn, hsl]
        obtain ⟨L1, hr1, c0, hL⟩ := asOwn_ok (x := .tmp a.t) hr (by simpa [Nat.blt_eq] using hb) (by rw [hx]; rfl) (by rw [hx]; exact h1)
        exact ⟨_, _, rel_repS hr1 ⟨_, _, _, _, hL, rfl⟩⟩
      · cases h
    · cases h
  · -- in a slot
    rename_i hnp _
    split at h
    · rename_i u hu
      have hsl := getS_slot (t := a.t) hm.sl
      -- the slot holds something known
      have slotR : ∀ (B' : Reg) (L' : List MD) (m v' : PV), (∀ q c, EncC (fun b => A b ∧ Z.R b) w L q c → EncC B' w L' q c) → (∀ c, EncC (fun b => A b ∧ Z.R b) w L u c → EncC B' w L' m c) → m.isA = u.isA → u = .nils → putV m (getS s.sl a.t) a.p = some v' → SlotR B' w L' σ a.t v' := by
        intro B' L' m v' hq hmu hA hun hp
        have hP : (getS s.sl a.t).isP = true := by
          revert hu
          generalize getS s.sl a.t = x
          generalize a.p = pp
          intro hu
          cases pp with
          | nil => simp only [atV, Option.some.injEq] at hu; rw [hu, hun]; rfl
          | cons _ _ => cases x <;> first | rfl | simp [atV] at hu
        have hE : EncV (fun b => A b ∧ Z.R b) w L (getS s.sl a.t) (σ a.t) := (valR_P hP).1 ((SlotR.iff (PV.isP_V hP)).1 hsl)
        have key : EncV B' w L' v' (σ a.t) := by
          unfold EncV asV at hE
          split at hE
          · rename_i hA'
            obtain ⟨cs, e1, hc⟩ := hE
            obtain ⟨_, g⟩ := atV_ok hu hc
            obtain ⟨g1, g2⟩ := g B' w L' m v' hq hmu hA hp
            unfold EncV; rw [g2, hA']; exact ⟨cs, e1, g1⟩
          · rename_i hA'
            obtain ⟨_, g⟩ := atV_ok hu hE
            obtain ⟨g1, g2⟩ := g B' w L' m v' hq hmu hA hp
            unfold EncV; rw [g2, hA']; exact g1
        obtain ⟨k1, k2⟩ := encV_valR key
        exact (SlotR.iff k1).2 k2
      split at h
      · rename_i E e _
        split at h
        · rename_i v' hv'
          cases h
          have hr2 := nil_push hr E e
          exact ⟨_, _, rel_repS (s := s.add (.arr E e [])) hr2 (slotR _ _ (.own s.new) v' (fun q c h => EncC.step (fun _ h => h) (fun _ _ => rfl) (LeL.append _ _) h) (fun c hc => ⟨e.size, E, _, [], by rw [S.new, hr.len]; simp, hc⟩) rfl rfl hv')⟩
        · cases h
      · cases h; exact ⟨A, L, hr⟩
      · rename_i e _
        split at h
        · rename_i v' hv'
          cases h
          exact ⟨_, _, rel_repS hr (slotR _ _ (.val (.list e) []) v' (fun q c h => h) (fun c hc => nil_list hc) rfl rfl hv')⟩
        · cases h
      · obtain ⟨A', h1, _⟩ := rel_freeze hr h; exact ⟨A', _, h1⟩
      · cases h; exact ⟨A, L, hr⟩
      · cases h
    · cases h
theorem coes_ok : ∀ {l : List At} {s s' : S} {A : Reg} {L : List MD}, Rel Z s σs A L σ w → coes s l = some s' → ∃ A' L', Rel Z s' σs A' L' σ w
  | [], s, s', A, L, hr, h => by simp only [coes, Option.some.injEq] at h; subst h; exact ⟨A, L, hr⟩
  | a :: l, s, s', A, L, hr, h => by
    simp only [coes] at h
    split at h
    · rename_i s1 h1
      obtain ⟨A1, L1, hr1⟩ := coe1_ok hr h1
      exact coes_ok hr1 h
    · cases h
theorem cn_ok {lv : List Nat} {co : List At} {s' : S} (hr : Rel Z s σs A L σ w) (h : s.cn lv co = some s') : ∃ A' L', Rel Z s' σs A' L' σ w := by
  unfold S.cn at h
  split at h
  · rename_i s1 h1
    cases h
    obtain ⟨A1, L1, hr1⟩ := coes_ok hr h1
    obtain ⟨L', hr2⟩ := canon_ok hr1 lv
    exact ⟨A1, L', hr2⟩
  · cases h
end Go.Rx

set_option linter.unusedVariables false
set_option linter.unusedSimpArgs false
namespace Go.Rx
open Go Go.Lv
variable {P : Program} {B B' : Reg} {w w' : World} {L L' : List MD} {s : S} {σs : List Env} {σ : Env} {Z : Fix} {A A' : Reg} {n : Nat} {ops : Array Oper}
variable {R : Type} {r : R} {T : Tab} {inl : Inl R}

def kof (k : K R) : Exit → S → Option R
  | .normal => k.n | .exit id => k.x id | .ret => k.r | _ => fun _ => none
def QK (Z : Fix) (σs : List Env) (k : K R) (r : R) (e : Exit) (σ' : Env) (w' : World) : Prop := ∃ s' A' L', kof k e s' = some r ∧ Rel Z s' σs A' L' σ' w'
theorem inlP_ok (an : An) {gl : List (Nat × List Value)} (hI : InlOk P gl inl) : InlOk P gl (inlP an inl) := by
  unfold inlP
  split
  · intro Z hZ f as s k r σs A L σ w vs h hr ha
    exact hI Z hZ f as _ k r σs A L σ w vs h (hr.slots rfl rfl (keepS_ok hr.mem.sl _)) ha
  · exact hI
theorem ex_ok (hMix : P.follows .mixedOrders = true) (hT : TabZ P T Z) (hI : InlOk P T.gl inl) : ∀ (c : Code) {an : An} {k : K R} {s : S} {A : Reg} {L : List MD} {σ : Env} {w : World}, ex P T inl n c an k s = some r → Rel Z s σs A L σ w → W P n c (QK Z σs k r) σ w := by
  intro c
  induction c with
  | skip => intro an k s A L σ w h hr; exact W.skip ⟨s, A, L, h, hr⟩
  | ret => intro an k s A L σ w h hr; exact W.ret ⟨s, A, L, h, hr⟩
  | exit id => intro an k s A L σ w h hr; exact W.exit ⟨s, A, L, h, hr⟩
  | seq a b iha ihb =>
    intro an k s A L σ w h hr
    refine W.seq (W.mono (iha (an := an.l) (k := { k with n := cutK an fun s' => ex P T inl n b an.r k s' }) h hr) ?_)
    rintro e σ' w' ⟨s', A', L', h1, hr'⟩
    cases e with
    | normal =>
      have h2 : cutK an (fun s' => ex P T inl n b an.r k s') s' = some r := h1
      unfold cutK at h2
      split at h2
      · split at h2
        · rename_i s2 hs2
          obtain ⟨A2, L2, hr2⟩ := cn_ok hr' hs2
          exact ihb h2 hr2
        · cases h2
      · exact ihb h2 hr'
    | exit id => exact ⟨s', A', L', h1, hr'⟩
    | ret => exact ⟨s', A', L', h1, hr'⟩
    | goto l => exact ⟨s', A', L', h1, hr'⟩
    | panic c => exact ⟨s', A', L', h1, hr'⟩
    | outgrown => exact ⟨s', A', L', h1, hr'⟩
  | cond c a b iha ihb =>
    intro an k s A L σ w h hr
    simp only [ex] at h
    split at h
    · rename_i t hc
      refine W.cond (opn_bool hr.mem.sl hc) (fun ht => ?_) (fun ht => ?_)
      · subst ht; exact iha (by simpa using h) hr
      · subst ht; exact ihb (by simpa using h) hr
    · cases h
  | block id a iha =>
    intro an k s A L σ w h hr
    refine W.block (W.mono (iha (an := an.l) (k := { k with x := fun id' s' => cnd (Nat.beq id' id ) (k.n s' ) <| k.x id' s' }) h hr) ?_)
    rintro e σ' w' ⟨s', A', L', h1, hr'⟩
    cases e with
    | exit id' =>
      have h2 : (cnd (Nat.beq id' id ) (k.n s' ) <| k.x id' s') = some r := h1
      simp only [InBlock]
      by_cases hid : id' = id
      · rw [if_pos hid]
        subst hid
        simp at h2
        exact ⟨s', A', L', h2, hr'⟩
      · rw [if_neg hid]
        have hb : Nat.beq id' id = false := by
          cases hb : Nat.beq id' id with
          | false => rfl
          | true => exact absurd (nat_beq hb) hid
        rw [hb] at h2
        exact ⟨s', A', L', h2, hr'⟩
    | normal => exact ⟨s', A', L', h1, hr'⟩
    | ret => exact ⟨s', A', L', h1, hr'⟩
    | goto l => exact ⟨s', A', L', h1, hr'⟩
    | panic c => exact ⟨s', A', L', h1, hr'⟩
    | outgrown => exact ⟨s', A', L', h1, hr'⟩
  | loop a iha =>
    intro an k s A L σ w h hr
    have head : ∀ (q : Nat) (s : S) (A : Reg) (L : List MD) (σ : Env) (w : World), loopK an (iter an (fun kn s' => ex P T inl n a an.l { k with n := kn } s') q) s = some r → Rel Z s σs A L σ w →
        ∃ s' A' L', iter an (fun kn s' => ex P T inl n a an.l { k with n := kn } s') q s' = some r ∧ Rel Z s' σs A' L' σ w := by
      intro q s A L σ w h hr
      unfold loopK at h
      split at h
      · split at h
        · rename_i s2 hs2
          obtain ⟨A2, L2, hr2⟩ := cn_ok hr hs2
          exact ⟨s2, A2, L2, h, hr2⟩
        · cases h
      · cases h
    refine W.loop (fun q σ w => ∃ s A L, iter an (fun kn s' => ex P T inl n a an.l { k with n := kn } s') q s = some r ∧ Rel Z s σs A L σ w) FUELx (head _ _ _ _ _ _ h hr) ?_
    rintro q σ w ⟨s, A, L, h, hr⟩
    cases q with
    | zero => cases h
    | succ q =>
      refine W.mono (iha (k := { k with n := loopK an (iter an (fun kn s' => ex P T inl n a an.l { k with n := kn } s') q) }) h hr) ?_
      rintro e σ' w' ⟨s', A', L', h1, hr'⟩
      cases e with
      | normal => exact ⟨q, Nat.lt_succ_self _, head q s' A' L' σ' w' h1 hr'⟩
      | exit id => exact ⟨s', A', L', h1, hr'⟩
      | ret => exact ⟨s', A', L', h1, hr'⟩
      | goto l => exact ⟨s', A', L', h1, hr'⟩
      | panic c => exact ⟨s', A', L', h1, hr'⟩
      | outgrown => exact ⟨s', A', L', h1, hr'⟩
  | region id ops draw =>
    intro an k s A L σ w h hr
    cases draw with
    | false =>
      have h1 := exOps_ok (ops := ops) hT (inlP_ok an hI) hr (show exOps P T (inlP an inl) n ops ops.toList s k.n = some r from h)
      have hops : ops = ops.toList.toArray := by simp
      rw [hops]
      exact W.region (by rw [← hops]; exact h1)
    | true =>
      refine W.regionD hMix (fun _ => True) (cnd (modeOf an ) (0 ) <| ops.size) (fun w' hw hg => ?_)
      have hr' : Rel Z s σs A L σ w' := St.sameHeap hr hw hg
      refine exD_ok hT (inlP_ok an hI) hr' (show exD P T (inlP an inl) n (modeOf an) ops ops.size (cnd (modeOf an ) (0 ) <| ops.size) (Array.replicate ops.size false) s k.n = some r from h) (fun hm => .inl ?_) (fun _ _ => trivial)
      rw [hm]
      simp [overB]
  | rangeFunc => intro an k s A L σ w h hr; cases h
  | scope => intro an k s A L σ w h hr; cases h
  | label => intro an k s A L σ w h hr; cases h
  | goto => intro an k s A L σ w h hr; cases h
  | refuse => intro an k s A L σ w h hr; cases h

/-! ### results -/
theorem resOne_ok (hr : Rel Z s σs A L σ w) {v : ResultVar} {p : PV} (h : resOne P s v = some p) : ∃ u, ResOne P σ w v u ∧ EncV (fun b => A b ∧ Z.R b) w L p u := by
  have hm := hr.mem
  cases v with
  | tmp t =>
    obtain ⟨hp, h⟩ := bif_some h
    cases h
    exact ⟨σ t, rfl, opn_encV hm.sl hp⟩
  | cell a t =>
    simp only [resOne] at h
    split at h
    · rename_i i p' hsl
      split at h
      · rename_i T v0 hi
        split at h
        · rename_i u hu
          obtain ⟨hk, h⟩ := bif_some h
          cases h
          have hs1 := getS_slot (t := a) hm.sl
          rw [hsl] at hs1
          obtain ⟨md, b, h1, h2, h3⟩ := valR_ptr hs1
          obtain ⟨b', cells, h4, h5⟩ := hm.box hi
          rw [h4] at h1; cases h1; cases h2
          obtain ⟨c1, c2, c3, e, h6, h7⟩ := getF_ok hu h5
          have hok := okLoad_ok hk
          obtain ⟨d, hd, ha⟩ := hok.agg
          have hlen := h7.len
          cases hA : p.isA with
          | true =>
            refine ⟨.agg c2.toArray, ResOne.cells hr (hr.mob h4) ⟨d, hd, ha.trans hA⟩ hok.size h3 ?_ hlen, by unfold EncV; rw [hA]; exact ⟨c2, rfl, h7⟩⟩
            rw [e, ← h6, ← hlen]; exact mid_get rfl
          | false =>
            rw [hok.one hA] at hlen
            match c2, hlen with
            | [u], _ => exact ⟨u, ResOne.cell hr (hr.mob h4) ⟨d, hd, ha.trans hA⟩ h3 (by rw [e, ← h6]; simp), by unfold EncV; rw [hA]; exact h7⟩
        · cases h
      · cases h
    · cases h
theorem resAll_ok (hr : Rel Z s σs A L σ w) : ∀ {vs : List ResultVar} {ps : List PV}, resAll P s vs = some ps → ∃ us, ResAll P σ w vs us ∧ EncVs (fun b => A b ∧ Z.R b) w L ps us
  | [], ps, h => by simp only [resAll, Option.some.injEq] at h; subst h; exact ⟨[], trivial, rfl⟩
  | v :: vs, ps, h => by
    simp only [resAll] at h
    split at h
    · rename_i p ps' hp hps
      cases h
      obtain ⟨u, h1, h2⟩ := resOne_ok hr hp
      obtain ⟨us, h3, h4⟩ := resAll_ok hr hps
      exact ⟨u :: us, ⟨h1, h3⟩, u, us, rfl, h2, h4⟩
    · cases h
theorem numbered_ok : ∀ {as : List PV} {vs : List Value} {m : Nat} {f : Nat → Value}, EncVs B w L as vs → (∀ i v, vs[i]? = some v → f (m + i) = v) → ∀ p ∈ numbered m as, SlotR B w L f p.1 p.2
  | [], vs, m, f, _, _, p, hp => by simp [numbered] at hp
  | a :: as, vs, m, f, ⟨v, vs', e, h1, h2⟩, hf, p, hp => by
    subst e
    simp only [numbered] at hp
    rcases List.mem_cons.1 hp with rfl | hp
    · obtain ⟨k1, k2⟩ := encV_valR (show EncV B w L a v from h1)
      refine (SlotR.iff k1).2 ?_
      have := hf 0 v rfl
      rw [Nat.add_zero] at this
      rw [this]; exact k2
    · exact numbered_ok h2 (fun i v hi => by have := hf (i + 1) v (by simpa using hi); rw [← this]; congr 1; omega) p hp
theorem envOf_get {vs : List Value} {i : Nat} {v : Value} (h : vs[i]? = some v) : envOf vs i = v := by simp [envOf, List.getD_eq_getElem?_getD, h]
theorem EncVs.length : ∀ {as : List PV} {vs : List Value}, EncVs B w L as vs → vs.length = as.length
  | [], vs, h => by rw [show vs = [] from h]; rfl
  | a :: as, vs, ⟨v, vs', e, h1, h2⟩ => by rw [e, List.length_cons, EncVs.length h2]; rfl
theorem getAn_mem {f : Nat} {an : An} : ∀ {ans : List (Nat × An)}, inlN.getAn ans f = some an → ∃ a, (f, a) ∈ ans
  | [], h => by simp [inlN.getAn] at h
  | (g, a) :: ans, h => by
    simp only [inlN.getAn] at h
    cases hb : Nat.beq g f with
    | true => have := nat_beq hb; subst this; exact ⟨a, .head _⟩
    | false => rw [hb] at h; obtain ⟨a', h1⟩ := getAn_mem h; exact ⟨a', .tail _ h1⟩
theorem inlN_ok (hMix : P.follows .mixedOrders = true) (hT : TabOk P T) {ans : List (Nat × An)} (hA : ∀ p ∈ ans, Ent P p.1) : ∀ (q : Nat), InlOk (R := R) P T.gl (inlN P T q ans)
  | 0 => fun Z hZ f as s k r σs A L σ w vs h hr ha => by cases h
  | q + 1 => fun Z hZ f as s k r σs A L σ w vs h hr ha => by
    have hI := inlN_ok hMix hT hA q
    unfold inlN at h
    split at h
    · rename_i an fn han hfn
      obtain ⟨a, hmem⟩ := getAn_mem han
      split at h
      · cases h
      · rename_i c hc
        obtain ⟨hle, h⟩ := bif_some h
        refine ⟨hA _ hmem, ?_⟩
        have hr1 : Rel Z ⟨numbered 0 as, s.it, s.sl :: s.st⟩ (σ :: σs) A L (envOf vs) w :=
          Rel.as hr (i := 1) rfl ⟨hr.mem.it, numbered_ok ha (fun i v hi => by rw [Nat.zero_add]; exact envOf_get hi), hr.mem.sl, hr.mem.stk⟩ rfl
        refine calls_of_W (rs := fn.results.toList) hfn hc rfl (by simp) (by rw [ha.length]; exact hle) (W.mono (ex_ok hMix ⟨hT, hZ⟩ hI c h hr1) ?_)
        rintro e σ' w' ⟨s', A', L', h1, hr'⟩
        have fin : inlN.finK P fn.results.toList k s' = some r → ∃ us, ResAll P σ' w' fn.results.toList us ∧ ∃ v p s'' A'' L'', Ending.returned (packRes us) = .returned v ∧ k s'' p = some r ∧ Rel Z s'' σs A'' L'' σ w' ∧ p.isV = true ∧ ValR (fun b => A'' b ∧ Z.R b) w' L'' p v := by
          intro h1
          unfold inlN.finK at h1
          split at h1
          · rename_i ps sl st hps hst
            obtain ⟨us, h2, h3⟩ := resAll_ok hr' hps
            obtain ⟨h4, h5⟩ := packV_ok h3
            have hstk := hr'.mem.stk
            rw [hst] at hstk
            exact ⟨us, h2, _, _, _, A', L', rfl, h1, Rel.as hr' (i := 1) rfl ⟨hr'.mem.it, hstk.1, hstk.2⟩ rfl, h4, h5⟩
          · cases h1
        cases e with
        | normal => exact ⟨.inr rfl, fin h1⟩
        | ret => exact ⟨.inl rfl, fin h1⟩
        | exit id => cases h1
        | goto l => cases h1
        | panic c => cases h1
        | outgrown => cases h1
    · cases h
end Go.Rx

set_option linter.unusedVariables false
set_option linter.unusedSimpArgs false
namespace Go.Rx
open Go Go.Lv
variable {P : Program} {B B' : Reg} {w w' : World} {L L' : List MD} {s : S} {σs : List Env} {σ : Env} {Z : Fix} {A A' : Reg} {n : Nat} {ops : Array Oper}
variable {R : Type} {r : R} {T : Tab} {inl : Inl R}

/-! ### what is handed back -/
abbrev LS := List (ET × Option TypeId)
/-- Where the slices of one's own lie; those that are nil get parts of their own behind number c. -/
def retIdx : LS → List PV → Nat → List Nat
  | p :: r, v :: vs, c => match p.2 with
    | none => retIdx r vs c
    | some _ => (match v with | .own i => i | _ => c) :: retIdx r vs (c + 1)
  | _, _, _ => []
def nilMDs : LS → List MD
  | p :: r => match p.2 with
    | none => nilMDs r
    | some E => (match p.1 with | .list a => .own a.size E (.slice none 0 0) [] | _ => .dead) :: nilMDs r
  | [] => []
theorem nil_mobs (h : Mobs w A (L.map MD.mob)) : ∀ (ls : LS), Mobs w A ((L ++ nilMDs ls).map MD.mob) := by
  have one : ∀ (m : MD) (ms : List MD), m.mob.holds none w → Mobs w A ((L ++ ms).map MD.mob) → Mobs w A ((L ++ m :: ms).map MD.mob) := by
    intro m ms hm h
    have : Mobs w A (m.mob :: (L ++ ms).map MD.mob) := ⟨none, hm, fun b hb => (by cases hb), h.anti fun b hb => hb.elim id (fun h => by cases h)⟩
    refine this.perm ?_
    rw [List.map_append, List.map_append, List.map_cons]
    exact (List.perm_middle).symm
  intro ls
  induction ls with
  | nil => simpa [nilMDs] using h
  | cons p ls ih =>
    obtain ⟨e, o⟩ := p
    cases o with
    | none => exact ih
    | some E => cases e <;> exact one _ _ (by first | exact dead_holds | exact ⟨none, 0, 0, rfl, by simp, Nat.le_refl _, fun _ => rfl, fun _ => rfl, fun b h => by cases h⟩) ih
theorem retIdx_ok : ∀ {ls : LS} {vs : List PV} {seen : List Nat} {c : Nat}, ownOk s ls vs seen = true → s.it.length ≤ c → distinct (retIdx ls vs c) = true ∧ ∀ i ∈ retIdx ls vs c, (i < s.it.length ∧ i ∉ seen) ∨ c ≤ i
  | [], [], _, _, _, _ => ⟨rfl, by simp [retIdx]⟩
  | [], _ :: _, _, _, h, _ => by simp [ownOk] at h
  | _ :: _, [], _, _, h, _ => by simp [ownOk] at h
  | (e, none) :: ls, v :: vs, seen, c, h, hc => by
    simp only [ownOk, Bool.and_eq_true] at h
    exact retIdx_ok (ls := ls) (vs := vs) (seen := seen) (c := c) h.2 hc
  | (e, some E) :: ls, v :: vs, seen, c, h, hc => by
    simp only [ownOk] at h
    split at h
    · obtain ⟨h1, h2⟩ := retIdx_ok h (c := c + 1) (by omega)
      refine ⟨?_, fun i hi => ?_⟩
      · simp only [retIdx, distinct, Bool.and_eq_true, Bool.not_eq_true']
        refine ⟨?_, h1⟩
        cases hx : elemB c (retIdx ls vs (c + 1)) with
        | false => rfl
        | true => rcases h2 c (elemB_mem.1 hx) with ⟨h3, _⟩ | h3 <;> omega
      · simp only [retIdx, List.mem_cons] at hi
        rcases hi with rfl | hi
        · exact .inr (Nat.le_refl _)
        · rcases h2 i hi with h3 | h3
          · exact .inl h3
          · exact .inr (by omega)
    · rename_i a i
      simp only [Bool.and_eq_true, Bool.not_eq_true'] at h
      obtain ⟨⟨h0, hit⟩, h⟩ := h
      have hlt : i < s.it.length := by
        split at hit
        · rename_i E' a' l hi
          exact (List.getElem?_eq_some_iff.1 (getIt_some hi (by intro e; cases e))).1
        · cases hit
      obtain ⟨h1, h2⟩ := retIdx_ok h (c := c + 1) (by omega)
      refine ⟨?_, fun j hj => ?_⟩
      · simp only [retIdx, distinct, Bool.and_eq_true, Bool.not_eq_true']
        refine ⟨?_, h1⟩
        cases hx : elemB i (retIdx ls vs (c + 1)) with
        | false => rfl
        | true =>
          rcases h2 i (elemB_mem.1 hx) with ⟨_, h3⟩ | h3
          · exact absurd (List.mem_cons_self) h3
          · omega
      · simp only [retIdx, List.mem_cons] at hj
        rcases hj with rfl | hj
        · exact .inl ⟨hlt, fun hm => by have := elemB_mem.2 hm; rw [h0] at this; cases this⟩
        · rcases h2 j hj with ⟨h3, h4⟩ | h3
          · exact .inl ⟨h3, fun hm => h4 (List.mem_cons_of_mem _ hm)⟩
          · exact .inr (by omega)
    · cases h
theorem leaf_ro {e : ET} {q : PV} {x : e.T} (hr : Rel Z s σs A L σ w) (h : leafT s e q = some x) (ho : owns q = []) (hb : e.hasL = true → ∀ b, A b ∧ Z.R b → B' b) {L' : List MD} : LeafR (fun b => A b ∧ Z.R b) w L B' w L' q (.val e x) := by
  obtain ⟨h1, h2⟩ := leaf_enc (L' := L') hr h (B' := fun b => A b ∧ Z.R b) (fun _ h => h) (fun i hi => by rw [ho] at hi; cases hi)
  refine ⟨h1, fun cs hcs => ?_⟩
  have h3 : EncT (fun b => A b ∧ Z.R b) w e x cs := h2 cs hcs
  cases hl : e.hasL with
  | true => exact EncT.step (hb hl) (fun _ _ => rfl) h3
  | false => exact EncT.noL hl h3
theorem all_reg {e : ET} {l : List e.T} {cs : List Value} (hb : e.hasL = true → ∀ b, B b → B' b) (h : AllR (EncT B w e) l cs) : AllR (EncT B' w e) l cs := by
  cases hl : e.hasL with
  | true => exact h.mono fun x c hx => EncT.step (hb hl) (fun _ _ => rfl) hx
  | false => exact h.mono fun x c hx => EncT.noL hl hx
/-- The results of a function, for its caller. -/
theorem ret_leaves (hr : Rel Z s σs A L σ w) {LP : List MD} (hP : ∀ (i : Nat) (m : MD), L[i]? = some m → LP[i]? = some m) : ∀ (ls : LS) (vs : List PV) (y : LTy ls) (seen : List Nat) (c : Nat) (s0 : S) (Lx LF : List MD),
    ownOk s ls vs seen = true → packT s ls vs = some y → (∀ p ∈ ls, leafL p = true → ∀ b, A b ∧ Z.R b → B' b) → (∀ i m, (nilMDs ls)[i]? = some m → LP[c + i]? = some m) → Lx.length = s0.it.length → LF = Lx ++ (retIdx ls vs c).map (fun i => LP.getD i .dead) →
    ∃ its, (unpackT ls y s0).2 = ⟨s0.sl, s0.it ++ its, s0.st⟩ ∧ its.length = (retIdx ls vs c).length ∧ All2 (LeafR (fun b => A b ∧ Z.R b) w L B' w LF) vs (unpackT ls y s0).1 ∧
      ∀ (i : Nat) (a : Item) (m : MD), its[i]? = some a → ((retIdx ls vs c).map (fun i => LP.getD i .dead))[i]? = some m → ItemR B' w LF a m
  | [], vs, y, seen, c, s0, Lx, LF, ho, hp, _, _, _, _ => by
    rw [pack_nil hp]
    refine ⟨[], ?_, rfl, All2.nil, fun i a m h => by simp at h⟩
    rw [unpack_nil]; simp
  | p :: ls, vs, y, seen, c, s0, Lx, LF, ho, hp, hb, hn, hlen, hLF => by
    -- the first leaf, and the others
    have main : ∀ (v : PV) (vs' : List PV) (x : p.1.T) (rest : S → List PV × S), vs = v :: vs' → leafT s p.1 v = some x →
        (unpackT (p :: ls) y s0 = ((unpack1 p.1 p.2 x s0).1 :: (rest (unpack1 p.1 p.2 x s0).2).1, (rest (unpack1 p.1 p.2 x s0).2).2)) →
        (∀ (seen : List Nat) (c : Nat) (s1 : S) (Lx : List MD), ownOk s ls vs' seen = true → (∀ i m, (nilMDs ls)[i]? = some m → LP[c + i]? = some m) → Lx.length = s1.it.length → LF = Lx ++ (retIdx ls vs' c).map (fun i => LP.getD i .dead) →
          ∃ its, (rest s1).2 = ⟨s1.sl, s1.it ++ its, s1.st⟩ ∧ its.length = (retIdx ls vs' c).length ∧ All2 (LeafR (fun b => A b ∧ Z.R b) w L B' w LF) vs' (rest s1).1 ∧
            ∀ (i : Nat) (a : Item) (m : MD), its[i]? = some a → ((retIdx ls vs' c).map (fun i => LP.getD i .dead))[i]? = some m → ItemR B' w LF a m) →
        ∃ its, (unpackT (p :: ls) y s0).2 = ⟨s0.sl, s0.it ++ its, s0.st⟩ ∧ its.length = (retIdx (p :: ls) vs c).length ∧ All2 (LeafR (fun b => A b ∧ Z.R b) w L B' w LF) vs (unpackT (p :: ls) y s0).1 ∧
          ∀ (i : Nat) (a : Item) (m : MD), its[i]? = some a → ((retIdx (p :: ls) vs c).map (fun i => LP.getD i .dead))[i]? = some m → ItemR B' w LF a m := by
      intro v vs' x rest hvs hx hu hrest
      subst hvs
      rw [hu]
      have hbp := hb p (.head _)
      obtain ⟨e, o⟩ := p
      cases o with
      | none =>
        simp only [ownOk, Bool.and_eq_true] at ho
        have e1 : unpack1 e none x s0 = (.val e x, s0) := one_val
        simp only [e1]
        obtain ⟨its, h1, h2, h3, h4⟩ := hrest seen c s0 Lx ho.2 hn hlen hLF
        refine ⟨its, h1, h2, .cons (leaf_ro hr hx (isEmpty_nil ho.1) (fun hl => hbp ?_)) h3, h4⟩
        cases e <;> first | exact hl | cases hl
      | some E =>
        simp only [ownOk] at ho
        split at ho
        · -- nil
          rename_i a
          have hx' : x = [] := by
            have : elems s a .nils = some x := hx
            simpa [elems] using this.symm
          subst hx'
          have hc : LP[c]? = some (.own a.size E (.slice none 0 0) []) := hn 0 _ rfl
          have e1 : unpack1 (.list a) (some E) [] s0 = (.own s0.new, s0.add (.arr E a [])) := rfl
          simp only [e1]
          obtain ⟨its, h1, h2, h3, h4⟩ := hrest seen (c + 1) (s0.add (.arr E a [])) (Lx ++ [.own a.size E (.slice none 0 0) []]) ho (fun i m hi => by rw [Nat.add_assoc, Nat.add_comm 1 i]; exact hn (i + 1) m (by simpa [nilMDs] using hi))
            (by simp [S.add, hlen]) (by rw [hLF]; simp [retIdx, List.getD_eq_getElem?_getD, hc])
          refine ⟨.arr E a [] :: its, by rw [h1]; simp [S.add], by simp [retIdx, h2], .cons ⟨rfl, fun cs hcs => ?_⟩ h3, fun i b m hi hm => ?_⟩
          · refine ⟨a.size, E, .slice none 0 0, [], ?_, hcs⟩
            rw [hLF, S.new, ← hlen]
            simp [retIdx, List.getD_eq_getElem?_getD, hc]
          · cases i with
            | zero =>
              simp [retIdx, List.getD_eq_getElem?_getD, hc] at hi hm
              subst hi hm
              exact ⟨rfl, rfl, rfl⟩
            | succ i => exact h4 i b m (by simpa using hi) (by simpa [retIdx] using hm)
        · -- a slice of one's own
          rename_i a i
          simp only [Bool.and_eq_true, Bool.not_eq_true'] at ho
          obtain ⟨⟨h0, hit⟩, ho⟩ := ho
          split at hit
          · rename_i E' a' l hi
            simp only [Bool.and_eq_true, decide_eq_true_eq] at hit
            obtain ⟨hE, rfl⟩ := hit
            have := nat_beq hE
            subst this
            obtain ⟨u, cs0, g1, g2⟩ := hr.mem.arr hi
            have hx' : x = l := by
              have : elems s a' (.own i) = some x := hx
              simp [elems, hi] at this
              exact this.symm
            subst hx'
            have hc : LP[i]? = some (.own a'.size E' u cs0) := hP i _ g1
            have e1 : unpack1 (.list a') (some E') x s0 = (.own s0.new, s0.add (.arr E' a' x)) := rfl
            simp only [e1]
            obtain ⟨its, h1, h2, h3, h4⟩ := hrest (i :: seen) (c + 1) (s0.add (.arr E' a' x)) (Lx ++ [.own a'.size E' u cs0]) ho (fun i m hi => by rw [Nat.add_assoc, Nat.add_comm 1 i]; exact hn (i + 1) m (by simpa [nilMDs] using hi))
              (by simp [S.add, hlen]) (by rw [hLF]; simp [retIdx, List.getD_eq_getElem?_getD, hc])
            refine ⟨.arr E' a' x :: its, by rw [h1]; simp [S.add], by simp [retIdx, h2], .cons ⟨rfl, fun cs hcs => ?_⟩ h3, fun q b m hq hm => ?_⟩
            · obtain ⟨z, E2, v2, c2, k1, k2⟩ := hcs
              rw [g1] at k1; cases k1
              refine ⟨a'.size, E', u, cs0, ?_, k2⟩
              rw [hLF, S.new, ← hlen]
              simp [retIdx, List.getD_eq_getElem?_getD, hc]
            · cases q with
              | zero =>
                simp [retIdx, List.getD_eq_getElem?_getD, hc] at hq hm
                subst hq hm
                exact ⟨rfl, rfl, all_reg hbp g2⟩
              | succ q => exact h4 q b m (by simpa using hq) (by simpa [retIdx] using hm)
          · cases hit
        · cases ho
    cases ls with
    | nil =>
      obtain ⟨v, rfl, hx⟩ := pack_one hp
      exact main v [] y (fun s1 => ([], s1)) rfl hx (unpack_one p y s0) (fun seen c s1 Lx _ _ hlen hLF => ⟨[], by simp, rfl, All2.nil, fun i a m h => by simp at h⟩)
    | cons q r =>
      obtain ⟨v, vs', x, y', rfl, rfl, hx, hy⟩ := pack_cons hp
      exact main v vs' x (fun s1 => unpackT (q :: r) y' s1) rfl hx (unpack_cons p q r x y' s0)
        (fun seen c s1 Lx ho hn hlen hLF => ret_leaves hr hP (q :: r) vs' y' seen c s1 Lx LF ho hy (fun p hp => hb p (.tail _ hp)) hn hlen hLF)

theorem encT_start {e : ET} {x : e.T} {cs : List Value} (h : EncT B w e x cs) : EncT (fun b => b < w.heap.size ∧ B b) w e x cs :=
  match e, x, h with
  | .int _, _, h => h
  | .bool, _, h => h
  | .str, _, h => h
  | .list _, _, ⟨v, c0, h1, h2, h3⟩ => ⟨v, c0, h1, h2.start, h3.mono fun _ _ h => encT_start h⟩
  | .vec _ _, _, ⟨h1, h2⟩ => ⟨h1, h2.mono fun _ _ h => encT_start h⟩
  | .cons _ _, _, ⟨c1, c2, e, h1, h2⟩ => ⟨c1, c2, e, encT_start h1, encT_start h2⟩
  | .nil, _, h => h
/-- Values that are plain data, or slices of one's own. -/
def valB : PV → Bool
  | .val _ _ => true
  | .own _ => true
  | .agg l => go l
  | _ => false
where go : List PV → Bool
  | [] => true
  | a :: r => valB a && go r
mutual
theorem val_start : ∀ {p : PV} {cs : List Value}, valB p = true → EncC B w L p cs → EncC (fun b => b < w.heap.size ∧ B b) w L p cs
  | .val e x, cs, _, h => encT_start (show EncT B w e x cs from h)
  | .own i, cs, _, h => h
  | .agg l, cs, hv, h => val_startL hv (show EncC.go B w L l cs from h)
  | .tup _, _, hv, _ => by cases hv
  | .nils, _, hv, _ => by cases hv
  | .ptr _ _, _, hv, _ => by cases hv
  | .view _ _ _ _ _ _, _, hv, _ => by cases hv
  | .rptr _, _, hv, _ => by cases hv
  | .fn _ _, _, hv, _ => by cases hv
  | .cst _, _, hv, _ => by cases hv
  | .any, _, hv, _ => by cases hv
  | .gd _ _ _, _, hv, _ => by cases hv
  | .off, _, hv, _ => by cases hv
  | .undef, _, hv, _ => by cases hv
theorem val_startL : ∀ {l : List PV} {cs : List Value}, valB.go l = true → EncC.go B w L l cs → EncC.go (fun b => b < w.heap.size ∧ B b) w L l cs
  | [], cs, _, h => h
  | a :: l, cs, hv, ⟨c1, c2, e, h1, h2⟩ => by
    simp only [valB.go, Bool.and_eq_true] at hv
    exact ⟨c1, c2, e, val_start hv.1 h1, val_startL hv.2 h2⟩
end
theorem val_startV : ∀ {l : List PV} {vs : List Value}, valB.go l = true → EncVs B w L l vs → EncVs (fun b => b < w.heap.size ∧ B b) w L l vs
  | [], vs, _, h => h
  | a :: l, vs, hv, ⟨v, vs', e, h1, h2⟩ => by
    simp only [valB.go, Bool.and_eq_true] at hv
    exact ⟨v, vs', e, h1.mono fun c h => val_start hv.1 h, val_startV hv.2 h2⟩
theorem valB_app : ∀ {a b : List PV}, valB.go (a ++ b) = (valB.go a && valB.go b)
  | [], b => rfl
  | x :: a, b => by simp [valB.go, valB_app, Bool.and_assoc]
theorem unpack1_val {e : ET} {o : Option TypeId} {x : e.T} {s0 : S} : valB (unpack1 e o x s0).1 = true := by
  unfold unpack1
  split <;> rfl
theorem unpack1_arr {e : ET} {o : Option TypeId} {x : e.T} {s0 : S} (h : ∀ a ∈ s0.it, ∃ E e' l, a = .arr E e' l) : ∀ a ∈ (unpack1 e o x s0).2.it, ∃ E e' l, a = .arr E e' l := by
  unfold unpack1
  split
  · intro a ha
    simp only [S.add, List.mem_append, List.mem_singleton] at ha
    rcases ha with ha | ha
    · exact h a ha
    · exact ⟨_, _, _, ha⟩
  · exact h
theorem unpack_val : ∀ (ls : LS) (x : LTy ls) (s0 : S), valB.go (unpackT ls x s0).1 = true
  | [], x, s0 => rfl
  | [p], x, s0 => by
    rw [unpack_one]
    have h1 : valB (unpack1 p.1 p.2 x s0).1 = true := unpack1_val
    simp only [valB.go, h1]; rfl
  | p :: q :: r, (x, y), s0 => by
    rw [unpack_cons]
    have h1 : valB (unpack1 p.1 p.2 x s0).1 = true := unpack1_val
    simp only [valB.go, h1, unpack_val (q :: r) y _]; rfl
theorem unpack_arr : ∀ (ls : LS) (x : LTy ls) (s0 : S), (∀ a ∈ s0.it, ∃ E e' l, a = .arr E e' l) → ∀ a ∈ (unpackT ls x s0).2.it, ∃ E e' l, a = .arr E e' l
  | [], x, s0, h => h
  | [p], x, s0, h => by rw [unpack_one]; exact unpack1_arr h
  | p :: q :: r, (x, y), s0, h => by rw [unpack_cons]; exact unpack_arr (q :: r) y _ (unpack1_arr h)
mutual
theorem shape_val : ∀ {sh : Sh} {vs r : List PV} {u : PV}, shapeV sh vs = some (u, r) → valB.go vs = true → valB u = true ∧ valB.go r = true
  | .lf e o, v :: vs, r, u, h, hv => by
    simp only [shapeV, Option.some.injEq, Prod.mk.injEq] at h
    obtain ⟨rfl, rfl⟩ := h
    simpa [valB.go] using hv
  | .lf e o, [], r, u, h, hv => by simp [shapeV] at h
  | .agg l, vs, r, u, h, hv => by
    simp only [shapeV] at h
    split at h
    · rename_i us r' h1
      cases h
      exact shape_valL h1 hv
    · cases h
theorem shape_valL : ∀ {l : List Sh} {vs r us : List PV}, shapeV.go l vs = some (us, r) → valB.go vs = true → valB.go us = true ∧ valB.go r = true
  | [], vs, r, us, h, hv => by
    simp only [shapeV.go, Option.some.injEq, Prod.mk.injEq] at h
    obtain ⟨rfl, rfl⟩ := h
    exact ⟨rfl, hv⟩
  | a :: l, vs, r, us, h, hv => by
    simp only [shapeV.go] at h
    split at h
    · rename_i u vs' h1
      split at h
      · rename_i us' vs'' h2
        cases h
        obtain ⟨g1, g2⟩ := shape_val h1 hv
        obtain ⟨g3, g4⟩ := shape_valL h2 g2
        exact ⟨by simp [valB.go, g1, g3], g4⟩
      · cases h
    · cases h
end
theorem leafL_of {rs : List Sh} {p : ET × Option TypeId} (hp : p ∈ shL rs) (h : leafL p = true) : roRs rs = true := by
  unfold roRs; exact List.any_eq_true.2 ⟨p, hp, h⟩
theorem con_of_run (hMix : P.follows .mixedOrders = true) {f : Nat} {fn : Func} {ans : List (Nat × An)} {an : An} {ps rs : List Sh} {F : LTy (shL ps) → Option (LTy (shL rs))} (hf : P.funcs[f]? = some fn) (hE : Ent P f) (hT : TabOk P T) (hA : ∀ p ∈ ans, Ent P p.1)
    (hle : Nat.ble ps.length fn.ntmps = true) (h : ∀ x, run P T ans fn an ps rs x = F x) : ConOk P T.gl f ⟨ps, rs, F⟩ := by
  refine ⟨hE, fun R N w L0 vs pvs x y hx hlen0 hit0 hmob0 hvs hgl hy => ?_⟩
  have hy' : F x = some y := hy
  rw [← h x] at hy'
  unfold run at hy'
  have hx' : args ps x = some pvs := hx
  rw [hx'] at hy'
  split at hy'
  · rename_i c as hc has
    cases has
    let Z : Fix := ⟨fun b => ((R b ∧ N b) ∨ ∃ p ∈ T.gl, p.1 = b) ∨ ¬ N b ∨ w.heap.size ≤ b, fun b => ¬ N b, w, fun b hb => .inr (.inr hb), fun b hb => .inr (.inl hb), T.gl, fun p hp => ⟨.inl (.inr ⟨p, hp, rfl⟩), fun h => h (hgl p hp).2.1, (hgl p hp).1, (hgl p hp).2.2⟩⟩
    -- the arguments are plain data, or taken over
    have hval : valB.go pvs = true := by
      unfold args shapes at hx'
      split at hx'
      · rename_i us hs
        cases hx'
        exact (shape_valL hs (unpack_val _ _ _)).1
      · cases hx'
    have hvs2 : EncVs (fun b => (b < w.heap.size ∧ N b) ∧ Z.R b) w L0 pvs vs := EncVs.step (fun b hb => ⟨⟨hb.1, hb.2.2⟩, .inl (.inl hb.2)⟩) (fun _ _ => rfl) (.refl L0) (val_startV hval hvs)
    have hst : St (fun b => b < w.heap.size ∧ N b) w [.old Z.M Z.w0] (L0.map MD.mob) := by
      refine ⟨fun b hb => hb.1, fun f hf => ?_, hmob0.anti fun b hb => hb.2⟩
      cases hf with
      | head => exact ⟨.refl _, fun b hb hM => ⟨⟨hb, Classical.not_not.1 hM⟩, rfl⟩⟩
      | tail _ h => cases h
    have hr : Rel Z ⟨numbered 0 pvs, argI ps x, []⟩ [] (fun b => b < w.heap.size ∧ N b) L0 (envOf vs) w :=
      Rel.as (L := L0) hst (i := 0) rfl ⟨⟨hlen0, fun i a m h1 h2 => by
        have h3 := hit0 i a m h1 h2
        obtain ⟨E, e', l, rfl⟩ := unpack_arr (shL ps) x ⟨[], [], []⟩ (by simp) a (List.mem_of_getElem? h1)
        cases m with
        | dead => exact h3
        | box _ _ _ => exact h3
        | own z E2 v2 c2 => exact ⟨h3.1, h3.2.1, h3.2.2.mono fun x c h => EncT.step (fun b hb => ⟨⟨hb.1, hb.2.2⟩, .inl (.inl hb.2)⟩) (fun _ _ => rfl) (encT_start h)⟩⟩,
        numbered_ok hvs2 (fun i v hi => by rw [Nat.zero_add]; exact envOf_get hi), trivial⟩ rfl
    have hlen : vs.length = pvs.length := hvs.length
    have hpl : pvs.length = ps.length := by
      unfold args shapes at hx'
      split at hx'
      · rename_i us hs
        cases hx'
        have key : ∀ (l : List Sh) (vs r us : List PV), shapeV.go l vs = some (us, r) → us.length = l.length := by
          intro l
          induction l with
          | nil => intro vs r us h; simp only [shapeV.go, Option.some.injEq, Prod.mk.injEq] at h; obtain ⟨rfl, _⟩ := h; rfl
          | cons a l ih =>
            intro vs r us h
            simp only [shapeV.go] at h
            split at h
            · split at h
              · rename_i h2; cases h; simp [ih _ _ _ h2]
              · cases h
            · cases h
        exact key _ _ _ _ hs
      · cases hx'
    refine calls_of_W (rs := fn.results.toList) hf hc rfl (by simp) (by rw [hlen, hpl]; exact hle) (W.mono (ex_ok hMix ⟨hT, rfl⟩ (inlN_ok hMix hT hA 8) c hy' hr) ?_)
    rintro e σ' w' ⟨s', A', L', h1, hr'⟩
    have fin : retK P rs fn.results.toList s' = some y → ∃ us, ResAll P σ' w' fn.results.toList us ∧ ∃ us', Ending.returned (packRes us) = .returned (packRes us') ∧ ResOk T.gl R N w w' rs y us' := by
      intro h1
      unfold retK at h1
      split at h1
      · cases h1
      · rename_i ls0 hls0
        split at h1
        · cases h1
        · rename_i s1 hs1
          obtain ⟨A1, L1, hr1, _⟩ := rel_freezes hr' hs1
          split at h1
          · rename_i ls hls
            obtain ⟨ho, h1⟩ := bif_some h1
            unfold retL at hls
            split at hls
            · rename_i vs1 hvs1
              obtain ⟨us, hus, huv⟩ := resAll_ok hr1 hvs1
              refine ⟨us, hus, us, rfl, ?_⟩
              have hold := hr1.fact 1 (f := .old Z.M Z.w0) rfl
              have hA : ∀ b, b < w.heap.size → N b → A1 b := fun b hb hN => (hold.2 b hb (fun h => h hN)).1
              have hkeep : KeepN N w w' := ⟨fun b hb hN => (hold.2 b hb (fun h => h hN)).2, hold.1⟩
              -- the parts that are handed back
              have hmob := nil_mobs (St.mobs hr1) (shL rs)
              obtain ⟨hd, hidx⟩ := retIdx_ok (s := s1) (c := L1.length) ho (by rw [hr1.len]; exact Nat.le_refl _)
              refine ⟨hkeep, fun b => A1 b ∧ (¬ N b ∨ w.heap.size ≤ b), (retIdx (shL rs) ls L1.length).map (fun i => (L1 ++ nilMDs (shL rs)).getD i .dead), fun b hb => ⟨hb.2, St.lt hr1 b hb.1⟩, ?_, ?_⟩
              · refine (pick_mobs hmob hd).anti ?_
                rintro b (hb | hb)
                · exact hb.1
                · exact hA b hb.1 hb.2
              · intro s0 L0 B' hL0 hB1 hB2
                obtain ⟨its, g1, g2, g3, g4⟩ := ret_leaves hr1 (B' := B') (LP := L1 ++ nilMDs (shL rs)) (fun i m hi => by rw [List.getElem?_append_left (List.getElem?_eq_some_iff.1 hi).1]; exact hi) (shL rs) ls y [] L1.length s0 L0 _ ho h1
                  (fun p hp hl b hb => by
                    rcases hb.2 with hR | hN
                    · exact hB2 (leafL_of hp hl) b hR
                    · exact hB1 b ⟨hb.1, hN⟩)
                  (fun i m hi => by rw [List.getElem?_append_right (by omega), Nat.add_sub_cancel_left]; exact hi) hL0 rfl
                obtain ⟨ps', g5, g6⟩ := flats_shapes hls huv g3
                exact ⟨ps', its, g1, g5, g6, by rw [g2]; simp, g4⟩
            · cases hls
          · cases h1
    cases e with
    | normal => exact ⟨.inr rfl, by obtain ⟨us, k1, us', k2, k3⟩ := fin h1; exact ⟨us, k1, us', k2, k3⟩⟩
    | ret => exact ⟨.inl rfl, by obtain ⟨us, k1, us', k2, k3⟩ := fin h1; exact ⟨us, k1, us', k2, k3⟩⟩
    | exit id => cases h1
    | goto l => cases h1
    | panic c => cases h1
    | outgrown => cases h1
  · cases hy'
end Go.Rx

set_option linter.unusedVariables false
namespace Go.Rx
open Go Go.Lv
/-- A point in a function's code: how deep calls may still be walked through, the number of slots, the code from here on, its annotations, and what follows. -/
structure Pt (R : Type) where
  q : Nat
  n : Nat
  c : Code
  an : An
  k : K R
inductive PS (R : Type) | l | r | d | lp (kn : S → Option R) | call (i f : Nat) | dcall (i f fuel z : Nat) (listed : Array Bool)
def bodyOf (f : Func) : Code := match f.body with | some c => c | none => .skip
variable {R : Type}
noncomputable def Pt.e (P : Program) (T : Tab) (ans : List (Nat × An)) (p : Pt R) (s : S) : Option R := match p.c with
  | .loop _ => ex P T (inlN P T p.q ans) p.n p.c p.an p.k s
  | _ => hold (fun s => ex P T (inlN P T p.q ans) p.n p.c p.an p.k s) s
noncomputable def Pt.it (P : Program) (T : Tab) (ans : List (Nat × An)) (p : Pt R) (q : Nat) (s : S) : Option R := match p.c with
  | .loop a => iter p.an (fun kn s' => ex P T (inlN P T p.q ans) p.n a p.an.l { p.k with n := kn } s') q s
  | _ => none
noncomputable def Pt.step (P : Program) (T : Tab) (ans : List (Nat × An)) (p : Pt R) : PS R → Pt R
  | .l => match p.c with
    | .seq a b => ⟨p.q, p.n, a, p.an.l, { p.k with n := cutK p.an fun s' => ex P T (inlN P T p.q ans) p.n b p.an.r p.k s' }⟩
    | .cond _ a _ => ⟨p.q, p.n, a, p.an.l, p.k⟩
    | _ => p
  | .r => match p.c with
    | .seq _ b => ⟨p.q, p.n, b, p.an.r, p.k⟩
    | .cond _ _ b => ⟨p.q, p.n, b, p.an.r, p.k⟩
    | _ => p
  | .d => match p.c with
    | .block id a => ⟨p.q, p.n, a, p.an.l, { p.k with x := fun id' s' => cnd (Nat.beq id' id ) (p.k.n s' ) <| p.k.x id' s' }⟩
    | _ => p
  | .lp kn => match p.c with
    | .loop a => ⟨p.q, p.n, a, p.an.l, { p.k with n := loopK p.an kn }⟩
    | _ => p
  | .call i f => match p.c, p.q, P.funcs[f]?, inlN.getAn ans f with
    | .region _ ops false, q + 1, some fn, some an =>
      let fin := inlN.finK P fn.results.toList fun s v => exOps P T (inlP p.an (inlN P T (q + 1) ans)) p.n ops (ops.toList.drop (i + 1)) (s.sets ((ops[i]?).bind (·.dst)) v) p.k.n
      ⟨q, fn.ntmps, bodyOf fn, an, { n := fin, x := fun _ _ => none, r := fin }⟩
    | _, _, _, _ => p
  | .dcall i f fuel z listed => match p.c, p.q, P.funcs[f]?, inlN.getAn ans f with
    | .region _ ops true, q + 1, some fn, some an =>
      let fin := inlN.finK P fn.results.toList fun s v => exD P T (inlP p.an (inlN P T (q + 1) ans)) p.n (modeOf p.an) ops fuel z listed (s.sets ((ops[i]?).bind (·.dst)) v) p.k.n
      ⟨q, fn.ntmps, bodyOf fn, an, { n := fin, x := fun _ _ => none, r := fin }⟩
    | _, _, _, _ => p
noncomputable def Pt.at (P : Program) (T : Tab) (ans : List (Nat × An)) : Pt R → List (PS R) → Pt R
  | p, [] => p
  | p, x :: l => Pt.at P T ans (p.step P T ans x) l
noncomputable def Pt.root (P : Program) (fn : Func) (an : An) (rs : List Sh) : Pt (LTy (shL rs)) :=
  ⟨8, fn.ntmps, bodyOf fn, an, { n := retK P rs fn.results.toList, x := fun _ _ => none, r := retK P rs fn.results.toList }⟩
theorem both_self2 (a : Option R) : both a [a, a] = a := by simp [both]
theorem both_self3 (a : Option R) : both a [a, a, a] = a := by simp [both]
end Go.Rx

namespace Go.Rx
open Go Go.Lv
/-- A contract that asks for fewer package variables. -/
theorem ConOk.mono {P : Program} {gl gl' : List (Nat × List Value)} {f : Nat} {c : Con} (h : ConOk P gl f c) (hs : gl.Sublist gl') : ConOk P gl' f c := by
  refine ⟨h.ent, fun R N w L0 vs ps x y h1 h2 h3 h4 h5 h6 h7 => (h.ok R N w L0 vs ps x y h1 h2 h3 h4 h5 (fun p hp => h6 p (hs.subset hp)) h7).mono ?_⟩
  rintro e w' ⟨us, he, hk, A1, L1, g1, g2, g3⟩
  exact ⟨us, he, hk, A1, L1, g1, g2, fun s L B' k1 k2 k3 => g3 s L B' k1 k2 fun hr b hb => k3 hr b (hb.imp id fun ⟨p, hp, he⟩ => ⟨p, hs.subset hp, he⟩)⟩
theorem TabOk.nil {P : Program} {gl : List (Nat × List Value)} {vw : Bool} : TabOk P ⟨[], gl, vw⟩ := fun f c h => by cases h
theorem TabOk.cons {P : Program} {g : Nat} {c : Con} {r : List (Nat × Con)} {gl : List (Nat × List Value)} {vw : Bool} (h : ConOk P gl g c) (hr : TabOk P ⟨r, gl, vw⟩) : TabOk P ⟨(g, c) :: r, gl, vw⟩ := fun f c' h' => by
  simp only [Tab.get, getC] at h'
  cases hb : Nat.beq g f with
  | true =>
    rw [hb] at h'
    have := nat_beq hb
    subst this
    cases h'; exact h
  | false => rw [hb] at h'; exact hr f c' h'
theorem AnsOk.nil {P : Program} : ∀ p ∈ ([] : List (Nat × An)), Ent P p.1 := by simp
theorem AnsOk.cons {P : Program} {g : Nat} {a : An} {r : List (Nat × An)} (h : Ent P g) (hr : ∀ p ∈ r, Ent P p.1) : ∀ p ∈ (g, a) :: r, Ent P p.1 := by
  intro p hp
  rcases List.mem_cons.1 hp with rfl | hp
  · exact h
  · exact hr p hp
end Go.Rx
namespace Go.Rx
variable {R α : Type}
theorem both1_of {a b c : Option R} (h : a = c) (h1 : b = c) : both a [b] = c := by subst h; subst h1; exact both_self _
theorem both2_of {a b d c : Option R} (h : a = c) (h1 : b = c) (h2 : d = c) : both a [b, d] = c := by subst h; subst h1; subst h2; exact both_self2 _
theorem both3_of {a b d e c : Option R} (h : a = c) (h1 : b = c) (h2 : d = c) (h3 : e = c) : both a [b, d, e] = c := by subst h; subst h1; subst h2; subst h3; exact both_self3 _
theorem nilb_of {l : List α} {a b c : Option R} (h : l = [] → a = c) (h1 : b = c) : nilb l a b = c := by subst h1; exact nilb_eq h
theorem bind_of {o : Option α} {f g : α → Option R} (h : ∀ x, f x = g x) : Option.bind o f = Option.bind o g := by rw [funext h]
theorem bind_cases {o : Option α} {f : α → Option R} {t : Option R} (h : o = none → none = t) (h1 : ∀ x, o = some x → f x = t) : Option.bind o f = t := by
  cases o with
  | none => exact h rfl
  | some x => exact h1 x rfl
theorem bind_no (f : α → Option R) : Option.bind none f = none := rfl
theorem bind_so (x : α) (f : α → Option R) : Option.bind (some x) f = f x := rfl
theorem bind_to_none (o : Option α) : Option.bind o (fun _ => (none : Option R)) = none := by cases o <;> rfl
theorem ite_of {c : Prop} [Decidable c] {a b a' b' : Option R} (h : c → a = a') (h1 : ¬ c → b = b') : (if c then a else b) = if c then a' else b' := by
  by_cases hc : c
  · rw [if_pos hc, if_pos hc]; exact h hc
  · rw [if_neg hc, if_neg hc]; exact h1 hc
theorem ite_cases {c : Prop} [Decidable c] {a b t : Option R} (h : c → a = t) (h1 : ¬ c → b = t) : (if c then a else b) = t := by
  by_cases hc : c
  · rw [if_pos hc]; exact h hc
  · rw [if_neg hc]; exact h1 hc
end Go.Rx

set_option linter.unusedVariables false
set_option linter.unusedSimpArgs false
namespace Go.Rx
open Go Go.Lv Go.RowKit
variable {P : Program}
theorem encL_all {B : Reg} {w : World} {k : Kd} : ∀ (l : List k.T), AllR (EncT B w (.int k)) l (Go.Lv.encL (k := k.k) l)
  | [] => rfl
  | x :: l => ⟨[iv (T := k.T) (k := k.k) x], Go.Lv.encL (k := k.k) l, rfl, rfl, encL_all l⟩
theorem Rd.anti {A B : Reg} {w : World} {s : Nat} {v : Value} {cs : List Value} (h : Rd A w s v cs) (ha : ∀ b, A b → B b) : Rd B w s v cs := h.step ha fun _ _ => rfl
/-- A slice of integers that came in. -/
theorem enc_row {w : World} {k : Kd} {v : Value} {l : List k.T} (h : Rd (fun _ => True) w 1 v (Go.Lv.encL (k := k.k) l)) : EncV (fun _ => True ∧ True) w [] (.val (.list (.int k)) l) v :=
  ⟨v, _, rfl, Rd.anti h fun _ _ => ⟨trivial, trivial⟩, encL_all l⟩
theorem enc_iv {w : World} {k : Kd} (x : k.T) : EncV (fun _ => True ∧ True) w [] (.val (.int k) x) (iv (T := k.T) (k := k.k) x) := rfl
theorem enc_bool {w : World} (b : Bool) : EncV (fun _ => True ∧ True) w [] (.val .bool b) (.bool b) := rfl
theorem enc_str {w : World} (s : List UInt8) : EncV (fun _ => True ∧ True) w [] (.val .str s) (sv s) := rfl
theorem string_sv (a : ByteArray) : ∃ l, (.string a : Value) = sv l := ⟨a.data.toList, by cases a; rfl⟩
theorem encs_nil {B : Reg} {w : World} : EncVs B w [] [] [] := rfl
theorem encs_cons {B : Reg} {w : World} {p : PV} {ps : List PV} {v : Value} {vs : List Value} (h : EncV B w [] p v) (hs : EncVs B w [] ps vs) : EncVs B w [] (p :: ps) (v :: vs) := ⟨v, vs, rfl, h, hs⟩
/-- A law's call, by its contract. -/
theorem row_true {gl : List (Nat × List Value)} {f : Nat} {ps : List Sh} {F : LTy (shL ps) → Option Bool} (hC : ConOk P gl f ⟨ps, [.lf .bool none], F⟩) {x : LTy (shL ps)} {pvs : List PV} {vs : List Value} (ha : args ps x = some pvs) (hi : argI ps x = []) {w : World}
    (hv : EncVs (fun _ => True ∧ True) w [] pvs vs) (hg : GlOk gl (fun _ => True) w) (hF : F x = some true) : Calls P f vs.toArray w fun e w' => e = .returned (.bool true) ∧ Below w.heap.size w w' := by
  refine (hC.ok (fun _ => True) (fun _ => True) w [] vs pvs x true ha (by rw [hi]; rfl) (fun i a m h => by rw [hi] at h; simp at h) trivial hv hg hF).mono ?_
  rintro e w' ⟨us, rfl, hk, A1, L1, g1, g2, g3⟩
  obtain ⟨qs, its, k1, k2, k3, k4, k5⟩ := g3 ⟨[], [], []⟩ [] (fun _ => True) rfl (fun _ _ => trivial) (fun _ _ _ => trivial)
  refine ⟨?_, ⟨hk.gr.os, hk.gr.tape, hk.gr.output, hk.gr.le, fun b hb => hk.same b hb trivial⟩⟩
  obtain rfl := Option.some.inj (show some [PV.val .bool true] = some qs from k2)
  obtain ⟨_, _, rfl, e1, rfl⟩ := k3
  cases (show [_] = [Value.bool true] from e1)
  rfl
/-- What a listed array of numbers holds. -/
theorem laid_ints {H : Type} {enc : TypeId × Value → H} {w : World} {fuel : Nat} {t e n : Nat} {k : IntKind} {cs : List Value} {zs : List Int} {p : List MemPlace} (hu : P.underlying t = some (.array n e)) (he : P.underlying e = some (.int k)) (hc : P.cellsOf e = 1) (ht : P.cellsOf t = n)
    (h : DataW.trod enc P w 0 (fun _ => true) false fuel t cs = some (.agg (zs.map fun z => .lit (.int k z)), p)) : cs = zs.map fun z => Value.int k z := by
  obtain ⟨xs, m, rfl, hx, hlen, hn, hel⟩ := DataW.trod_array hu h
  simp only [Prod.mk.injEq, DataW.agg.injEq] at hx
  rw [ht] at hlen
  have hz : zs.length = n := by
    have := congrArg List.length hx.1
    simpa [hn] using this
  apply List.ext_getElem?
  intro i
  by_cases hi : i < n
  · have h0 := hel i hi
    rw [hc, Nat.mul_one] at h0
    have hxi : xs[i]? = some xs[i] := List.getElem?_eq_getElem (by omega)
    rw [hxi] at h0
    obtain ⟨q, e1, e2, _⟩ := DataW.trod_int he h0
    have e3 : (cs.drop i).take 1 = [cs[i]'(by omega)] := by
      rw [List.drop_eq_getElem_cons (by omega)]; rfl
    rw [e3] at e1
    have e4 : (xs.map (·.1))[i]? = (zs.map fun z => (DataW.lit (.int k z) : DataW H))[i]? := by rw [← hx.1]
    rw [List.getElem?_map, List.getElem?_map, hxi, List.getElem?_eq_getElem (by omega), e2] at e4
    simp only [Option.map_some, Option.some.injEq, DataW.lit.injEq, Lit.int.injEq, true_and] at e4
    rw [List.getElem?_map, List.getElem?_eq_getElem (by omega), List.getElem?_eq_getElem (by omega)]
    simp only [List.cons.injEq, and_true] at e1
    rw [e1, e4]; rfl
  · rw [List.getElem?_eq_none (by omega), List.getElem?_eq_none (by simp; omega)]
/-- The cells of a listed variable, where walks ask for them. -/
theorem glOk_cons {n : String} {g : Nat} {cs : Array Value} {l : List Value} {gl : List (Nat × List Value)} {w : World} (hg : P.globalNamed n = some g) (hv : w.var? P n = some cs) (hl : cs.toList = l) (h : GlOk gl (fun _ => True) w) : GlOk ((g, l) :: gl) (fun _ => True) w := by
  intro p hp
  rcases List.mem_cons.1 hp with rfl | hp
  · simp only [World.var?, hg, Option.bind_some] at hv
    split at hv
    · rename_i cs' T fr hh
      cases hv
      refine ⟨(Array.getElem?_eq_some_iff.1 hh).1, trivial, T, fr, ?_⟩
      rw [hh, ← hl]
    · cases hv
  · exact h p hp
theorem glOk_nil {w : World} {N : Reg} : GlOk [] N w := fun p hp => by simp at hp
end Go.Rx
