/- A part of the proof of a statement of this seat (see the text that ends in Proof): RxRun, RxPt, RxTab, RxHd, RxRow, RxAgg, RxOpn, RxRf, RxIt. No conditions of its own. -/
import Derived.Test.YtneipcijjnibdaaGreatDoorDuBB
import Derived.Test.YtneipcijjnibdaaGreatDoorDuBA
import Derived.ProofKit
import Derived.LaidMore
import Derived.DataReads
import Derived.RangeFuncNested
import Derived.RangeFuncLeaves
import Derived.LoopNIn
import Derived.LoopIn
set_option linter.unusedVariables false
set_option linter.unusedSimpArgs false
namespace Go.Rx
open Go Go.Lv
variable {P : Program} {B B' : Reg} {w w' : World} {L L' : List MD} {s : S} {σs : List Env} {σ : Env} {Z : Fix} {A A' : Reg} {n : Nat} {ops : Array Oper}
variable {R : Type} {r : R} {T : Tab} {inl : Inl R}
abbrev LS := List (ET × Option TypeId)
def Ck : LS → List PV → Nat → List Nat
 | p :: r, v :: vs, c => match p.2 with
  | none => Ck r vs c
  | some _ => (match v with | .own i => i | _ => c) :: Ck r vs (c + 1)
 | _, _, _ => []
def Qg : LS → List MD
 | p :: r => match p.2 with
  | none => Qg r
  | some E => (match p.1 with | .list a => .own a.size E (.slice none 0 0) [] | _ => .dead) :: Qg r
 | [] => []
theorem Au0 (h : Mobs w A (L.map MD.Cv)) : ∀ (ls : LS), Mobs w A ((L ++ Qg ls).map MD.Cv) := by
 have one : ∀ (m : MD) (ms : List MD), m.Cv.holds none w → Mobs w A ((L ++ ms).map MD.Cv) → Mobs w A ((L ++ m :: ms).map MD.Cv) := by
  intro m ms hm h
  have : Mobs w A (m.Cv :: (L ++ ms).map MD.Cv) := ⟨none, hm, fun b hb => (by cases hb), h.Ia fun b hb => hb.elim id (fun h => by cases h)⟩
  refine this.perm ?_
  rw [List.map_append, List.map_append, List.map_cons]
  exact (List.perm_middle).symm
 intro ls
 induction ls with
 | nil => simpa [Qg] using h
 | cons p ls ih =>
  obtain ⟨e, o⟩ := p
  cases o with
  | none => exact ih
  | some E => cases e <;> exact one _ _ (by first | exact Akg | exact ⟨none, 0, 0, rfl, by simp, Nat.le_refl _, fun _ => rfl, fun _ => rfl, fun b h => by cases h⟩) ih
theorem Aa0 : ∀ {ls : LS} {vs : List PV} {seen : List Nat} {c : Nat}, Rh s ls vs seen = true → s.it.length ≤ c → distinct (Ck ls vs c) = true ∧ ∀ i ∈ Ck ls vs c, (i < s.it.length ∧ i ∉ seen) ∨ c ≤ i
 | [], [], _, _, _, _ => ⟨rfl, by simp [Ck]⟩
 | [], _ :: _, _, _, h, _ => by simp [Rh] at h
 | _ :: _, [], _, _, h, _ => by simp [Rh] at h
 | (e, none) :: ls, v :: vs, seen, c, h, hc => by
  simp only [Rh, Bool.and_eq_true] at h
  exact Aa0 (ls := ls) (vs := vs) (seen := seen) (c := c) h.2 hc
 | (e, some E) :: ls, v :: vs, seen, c, h, hc => by
  simp only [Rh] at h
  split at h
  ·obtain ⟨h1, h2⟩ := Aa0 h (c := c + 1) (by omega)
   refine ⟨?_, fun i hi => ?_⟩
   ·simp only [Ck, distinct, Bool.and_eq_true, Bool.not_eq_true']
    refine ⟨?_, h1⟩
    cases hx : Hm c (Ck ls vs (c + 1)) with
    | false => rfl
    | true => rcases h2 c (Im.1 hx) with ⟨h3, _⟩ | h3 <;> omega
   ·simp only [Ck, List.mem_cons] at hi
    rcases hi with rfl | hi
    ·exact .inr (Nat.le_refl _)
    ·rcases h2 i hi with h3 | h3
     ·exact .inl h3
     ·exact .inr (by omega)
  ·rename_i a i
   simp only [Bool.and_eq_true, Bool.not_eq_true'] at h
   obtain ⟨⟨h0, hit⟩, h⟩ := h
   have hlt : i < s.it.length := by
    split at hit
    ·rename_i E' a' l hi
     exact (List.getElem?_eq_some_iff.1 (Adt hi (by intro e; cases e))).1
    ·cases hit
   obtain ⟨h1, h2⟩ := Aa0 h (c := c + 1) (by omega)
   refine ⟨?_, fun j hj => ?_⟩
   ·simp only [Ck, distinct, Bool.and_eq_true, Bool.not_eq_true']
    refine ⟨?_, h1⟩
    cases hx : Hm i (Ck ls vs (c + 1)) with
    | false => rfl
    | true =>
     rcases h2 i (Im.1 hx) with ⟨_, h3⟩ | h3
     ·exact absurd (List.mem_cons_self) h3
     ·omega
   ·simp only [Ck, List.mem_cons] at hj
    rcases hj with rfl | hj
    ·exact .inl ⟨hlt, fun hm => by have := Im.2 hm; rw [h0] at this; cases this⟩
    ·rcases h2 j hj with ⟨h3, h4⟩ | h3
     ·exact .inl ⟨h3, fun hm => h4 (List.mem_cons_of_mem _ hm)⟩
     ·exact .inr (by omega)
  ·cases h
theorem Ax5 {e : ET} {q : PV} {x : e.T} (hr : Rel Z s σs A L σ w) (h : Xh s e q = some x) (ho : owns q = []) (hb : e.Al8 = true → ∀ b, A b ∧ Z.R b → B' b) {L' : List MD} : Uw (fun b => A b ∧ Z.R b) w L B' w L' q (.val e x) := by
 obtain ⟨h1, h2⟩ := Apl (L' := L') hr h (B' := fun b => A b ∧ Z.R b) (fun _ h => h) (fun i hi => by rw [ho] at hi; cases hi)
 refine ⟨h1, fun cs hcs => ?_⟩
 have h3 : Af (fun b => A b ∧ Z.R b) w e x cs := h2 cs hcs
 cases hl : e.Al8 with
 | true => exact Af.step (hb hl) (fun _ _ => rfl) h3
 | false => exact Af.noL hl h3
theorem Ayh {e : ET} {l : List e.T} {cs : List Value} (hb : e.Al8 = true → ∀ b, B b → B' b) (h : Ax (Af B w e) l cs) : Ax (Af B' w e) l cs := by
 cases hl : e.Al8 with
 | true => exact h.mono fun x c hx => Af.step (hb hl) (fun _ _ => rfl) hx
 | false => exact h.mono fun x c hx => Af.noL hl hx
theorem Aj4 (hr : Rel Z s σs A L σ w) {LP : List MD} (hP : ∀ (i : Nat) (m : MD), L[i]? = some m → LP[i]? = some m) : ∀ (ls : LS) (vs : List PV) (y : LTy ls) (seen : List Nat) (c : Nat) (s0 : S) (Lx LF : List MD),
  Rh s ls vs seen = true → Ni s ls vs = some y → (∀ p ∈ ls, Avs p = true → ∀ b, A b ∧ Z.R b → B' b) → (∀ i m, (Qg ls)[i]? = some m → LP[c + i]? = some m) → Lx.length = s0.it.length → LF = Lx ++ (Ck ls vs c).map (fun i => LP.getD i .dead) →
  ∃ its, (Bv ls y s0).2 = ⟨s0.sl, s0.it ++ its, s0.st⟩ ∧ its.length = (Ck ls vs c).length ∧ All2 (Uw (fun b => A b ∧ Z.R b) w L B' w LF) vs (Bv ls y s0).1 ∧
   ∀ (i : Nat) (a : Item) (m : MD), its[i]? = some a → ((Ck ls vs c).map (fun i => LP.getD i .dead))[i]? = some m → ItemR B' w LF a m
 | [], vs, y, seen, c, s0, Lx, LF, ho, hp, _, _, _, _ => by
  rw [Apm hp]
  refine ⟨[], ?_, rfl, All2.nil, fun i a m h => by simp at h⟩
  rw [Akr]; simp
 | p :: ls, vs, y, seen, c, s0, Lx, LF, ho, hp, hb, hn, hlen, hLF => by
  have main : ∀ (v : PV) (vs' : List PV) (x : p.1.T) (rest : S → List PV × S), vs = v :: vs' → Xh s p.1 v = some x →
    (Bv (p :: ls) y s0 = ((Br p.1 p.2 x s0).1 :: (rest (Br p.1 p.2 x s0).2).1, (rest (Br p.1 p.2 x s0).2).2)) →
    (∀ (seen : List Nat) (c : Nat) (s1 : S) (Lx : List MD), Rh s ls vs' seen = true → (∀ i m, (Qg ls)[i]? = some m → LP[c + i]? = some m) → Lx.length = s1.it.length → LF = Lx ++ (Ck ls vs' c).map (fun i => LP.getD i .dead) →
     ∃ its, (rest s1).2 = ⟨s1.sl, s1.it ++ its, s1.st⟩ ∧ its.length = (Ck ls vs' c).length ∧ All2 (Uw (fun b => A b ∧ Z.R b) w L B' w LF) vs' (rest s1).1 ∧
      ∀ (i : Nat) (a : Item) (m : MD), its[i]? = some a → ((Ck ls vs' c).map (fun i => LP.getD i .dead))[i]? = some m → ItemR B' w LF a m) →
    ∃ its, (Bv (p :: ls) y s0).2 = ⟨s0.sl, s0.it ++ its, s0.st⟩ ∧ its.length = (Ck (p :: ls) vs c).length ∧ All2 (Uw (fun b => A b ∧ Z.R b) w L B' w LF) vs (Bv (p :: ls) y s0).1 ∧
     ∀ (i : Nat) (a : Item) (m : MD), its[i]? = some a → ((Ck (p :: ls) vs c).map (fun i => LP.getD i .dead))[i]? = some m → ItemR B' w LF a m := by
   intro v vs' x rest hvs hx hu hrest
   subst hvs
   rw [hu]
   have hbp := hb p (.head _)
   obtain ⟨e, o⟩ := p
   cases o with
   | none =>
    simp only [Rh, Bool.and_eq_true] at ho
    have e1 : Br e none x s0 = (.val e x, s0) := Ash
    simp only [e1]
    obtain ⟨its, h1, h2, h3, h4⟩ := hrest seen c s0 Lx ho.2 hn hlen hLF
    refine ⟨its, h1, h2, .cons (Ax5 hr hx (isEmpty_nil ho.1) (fun hl => hbp ?_)) h3, h4⟩
    cases e <;> first | exact hl | cases hl
   | some E =>
    simp only [Rh] at ho
    split at ho
    ·
     rename_i a
     have hx' : x = [] := by
      have : elems s a .nils = some x := hx
      simpa [elems] using this.symm
     subst hx'
     have hc : LP[c]? = some (.own a.size E (.slice none 0 0) []) := hn 0 _ rfl
     have e1 : Br (.list a) (some E) [] s0 = (.own s0.new, s0.add (.arr E a [])) := rfl
     simp only [e1]
     obtain ⟨its, h1, h2, h3, h4⟩ := hrest seen (c + 1) (s0.add (.arr E a [])) (Lx ++ [.own a.size E (.slice none 0 0) []]) ho (fun i m hi => by rw [Nat.add_assoc, Nat.add_comm 1 i]; exact hn (i + 1) m (by simpa [Qg] using hi))
      (by simp [S.add, hlen]) (by rw [hLF]; simp [Ck, List.getD_eq_getElem?_getD, hc])
     refine ⟨.arr E a [] :: its, by rw [h1]; simp [S.add], by simp [Ck, h2], .cons ⟨rfl, fun cs hcs => ?_⟩ h3, fun i b m hi hm => ?_⟩
     ·refine ⟨a.size, E, .slice none 0 0, [], ?_, hcs⟩
      rw [hLF, S.new, ← hlen]
      simp [Ck, List.getD_eq_getElem?_getD, hc]
     ·cases i with
      | zero =>
       simp [Ck, List.getD_eq_getElem?_getD, hc] at hi hm
       subst hi hm
       exact ⟨rfl, rfl, rfl⟩
      | succ i => exact h4 i b m (by simpa using hi) (by simpa [Ck] using hm)
    ·
     rename_i a i
     simp only [Bool.and_eq_true, Bool.not_eq_true'] at ho
     obtain ⟨⟨h0, hit⟩, ho⟩ := ho
     split at hit
     ·rename_i E' a' l hi
      simp only [Bool.and_eq_true, decide_eq_true_eq] at hit
      obtain ⟨hE, rfl⟩ := hit
      have := Az hE
      subst this
      obtain ⟨u, cs0, g1, g2⟩ := hr.mem.arr hi
      have hx' : x = l := by
       have : elems s a' (.own i) = some x := hx
       simp [elems, hi] at this
       exact this.symm
      subst hx'
      have hc : LP[i]? = some (.own a'.size E' u cs0) := hP i _ g1
      have e1 : Br (.list a') (some E') x s0 = (.own s0.new, s0.add (.arr E' a' x)) := rfl
      simp only [e1]
      obtain ⟨its, h1, h2, h3, h4⟩ := hrest (i :: seen) (c + 1) (s0.add (.arr E' a' x)) (Lx ++ [.own a'.size E' u cs0]) ho (fun i m hi => by rw [Nat.add_assoc, Nat.add_comm 1 i]; exact hn (i + 1) m (by simpa [Qg] using hi))
       (by simp [S.add, hlen]) (by rw [hLF]; simp [Ck, List.getD_eq_getElem?_getD, hc])
      refine ⟨.arr E' a' x :: its, by rw [h1]; simp [S.add], by simp [Ck, h2], .cons ⟨rfl, fun cs hcs => ?_⟩ h3, fun q b m hq hm => ?_⟩
      ·obtain ⟨z, E2, v2, c2, k1, k2⟩ := hcs
       rw [g1] at k1; cases k1
       refine ⟨a'.size, E', u, cs0, ?_, k2⟩
       rw [hLF, S.new, ← hlen]
       simp [Ck, List.getD_eq_getElem?_getD, hc]
      ·cases q with
       | zero =>
        simp [Ck, List.getD_eq_getElem?_getD, hc] at hq hm
        subst hq hm
        exact ⟨rfl, rfl, Ayh hbp g2⟩
       | succ q => exact h4 q b m (by simpa using hq) (by simpa [Ck] using hm)
     ·cases hit
    ·cases ho
  cases ls with
  | nil =>
   obtain ⟨v, rfl, hx⟩ := Ap0 hp
   exact main v [] y (fun s1 => ([], s1)) rfl hx (So p y s0) (fun seen c s1 Lx _ _ hlen hLF => ⟨[], by simp, rfl, All2.nil, fun i a m h => by simp at h⟩)
  | cons q r =>
   obtain ⟨v, vs', x, y', rfl, rfl, hx, hy⟩ := Anc hp
   exact main v vs' x (fun s1 => Bv (q :: r) y' s1) rfl hx (Pr p q r x y' s0)
    (fun seen c s1 Lx ho hn hlen hLF => Aj4 hr hP (q :: r) vs' y' seen c s1 Lx LF ho hy (fun p hp => hb p (.tail _ hp)) hn hlen hLF)
theorem Ii {e : ET} {x : e.T} {cs : List Value} (h : Af B w e x cs) : Af (fun b => b < w.heap.size ∧ B b) w e x cs :=
 match e, x, h with
 | .int _, _, h => h
 | .bool, _, h => h
 | .str, _, h => h
 | .list _, _, ⟨v, c0, h1, h2, h3⟩ => ⟨v, c0, h1, h2.start, h3.mono fun _ _ h => Ii h⟩
 | .vec _ _, _, ⟨h1, h2⟩ => ⟨h1, h2.mono fun _ _ h => Ii h⟩
 | .cons _ _, _, ⟨c1, c2, e, h1, h2⟩ => ⟨c1, c2, e, Ii h1, Ii h2⟩
 | .nil, _, h => h
def Qk : PV → Bool
 | .val _ _ => true
 | .own _ => true
 | .agg l => go l
 | _ => false
where go : List PV → Bool
 | [] => true
 | a :: r => Qk a && go r
mutual
theorem Anh : ∀ {p : PV} {cs : List Value}, Qk p = true → EncC B w L p cs → EncC (fun b => b < w.heap.size ∧ B b) w L p cs
 | .val e x, cs, _, h => Ii (show Af B w e x cs from h)
 | .own i, cs, _, h => h
 | .agg l, cs, hv, h => Akf hv (show EncC.go B w L l cs from h)
 | .tup _, _, hv, _ => by cases hv
 | .nils, _, hv, _ => by cases hv
 | .ptr _ _, _, hv, _ => by cases hv
 | .view _ _ _ _ _ _, _, hv, _ => by cases hv
 | .rptr _, _, hv, _ => by cases hv
 | .fn _ _, _, hv, _ => by cases hv
 | .cst _, _, hv, _ => by cases hv
 | .any, _, hv, _ => by cases hv
 | .gd _ _ _, _, hv, _ => by cases hv
 | .off, _, hv, _ => by cases hv
 | .undef, _, hv, _ => by cases hv
theorem Akf : ∀ {l : List PV} {cs : List Value}, Qk.go l = true → EncC.go B w L l cs → EncC.go (fun b => b < w.heap.size ∧ B b) w L l cs
 | [], cs, _, h => h
 | a :: l, cs, hv, ⟨c1, c2, e, h1, h2⟩ => by
  simp only [Qk.go, Bool.and_eq_true] at hv
  exact ⟨c1, c2, e, Anh hv.1 h1, Akf hv.2 h2⟩
end
theorem Ajr : ∀ {l : List PV} {vs : List Value}, Qk.go l = true → EncVs B w L l vs → EncVs (fun b => b < w.heap.size ∧ B b) w L l vs
 | [], vs, _, h => h
 | a :: l, vs, hv, ⟨v, vs', e, h1, h2⟩ => by
  simp only [Qk.go, Bool.and_eq_true] at hv
  exact ⟨v, vs', e, h1.mono fun c h => Anh hv.1 h, Ajr hv.2 h2⟩
theorem Ag1 {e : ET} {o : Option TypeId} {x : e.T} {s0 : S} : Qk (Br e o x s0).1 = true := by
 unfold Br
 split <;> rfl
theorem Ah3 {e : ET} {o : Option TypeId} {x : e.T} {s0 : S} (h : ∀ a ∈ s0.it, ∃ E e' l, a = .arr E e' l) : ∀ a ∈ (Br e o x s0).2.it, ∃ E e' l, a = .arr E e' l := by
 unfold Br
 split
 ·intro a ha
  simp only [S.add, List.mem_append, List.mem_singleton] at ha
  rcases ha with ha | ha
  ·exact h a ha
  ·exact ⟨_, _, _, ha⟩
 ·exact h
theorem Alu : ∀ (ls : LS) (x : LTy ls) (s0 : S), Qk.go (Bv ls x s0).1 = true
 | [], x, s0 => rfl
 | [p], x, s0 => by
  rw [So]
  have h1 : Qk (Br p.1 p.2 x s0).1 = true := Ag1
  simp only [Qk.go, h1]; rfl
 | p :: q :: r, (x, y), s0 => by
  rw [Pr]
  have h1 : Qk (Br p.1 p.2 x s0).1 = true := Ag1
  simp only [Qk.go, h1, Alu (q :: r) y _]; rfl
theorem Ak8 : ∀ (ls : LS) (x : LTy ls) (s0 : S), (∀ a ∈ s0.it, ∃ E e' l, a = .arr E e' l) → ∀ a ∈ (Bv ls x s0).2.it, ∃ E e' l, a = .arr E e' l
 | [], x, s0, h => h
 | [p], x, s0, h => by rw [So]; exact Ah3 h
 | p :: q :: r, (x, y), s0, h => by rw [Pr]; exact Ak8 (q :: r) y _ (Ah3 h)
mutual
theorem Aty : ∀ {sh : Sh} {vs r : List PV} {u : PV}, Fc sh vs = some (u, r) → Qk.go vs = true → Qk u = true ∧ Qk.go r = true
 | .lf e o, v :: vs, r, u, h, hv => by
  simp only [Fc, Option.some.injEq, Prod.mk.injEq] at h
  obtain ⟨rfl, rfl⟩ := h
  simpa [Qk.go] using hv
 | .lf e o, [], r, u, h, hv => by simp [Fc] at h
 | .agg l, vs, r, u, h, hv => by
  simp only [Fc] at h
  split at h
  ·rename_i us r' h1
   cases h
   exact Ac0 h1 hv
  ·cases h
theorem Ac0 : ∀ {l : List Sh} {vs r us : List PV}, Fc.go l vs = some (us, r) → Qk.go vs = true → Qk.go us = true ∧ Qk.go r = true
 | [], vs, r, us, h, hv => by
  simp only [Fc.go, Option.some.injEq, Prod.mk.injEq] at h
  obtain ⟨rfl, rfl⟩ := h
  exact ⟨rfl, hv⟩
 | a :: l, vs, r, us, h, hv => by
  simp only [Fc.go] at h
  split at h
  ·rename_i u vs' h1
   split at h
   ·rename_i us' vs'' h2
    cases h
    obtain ⟨g1, g2⟩ := Aty h1 hv
    obtain ⟨g3, g4⟩ := Ac0 h2 g2
    exact ⟨by simp [Qk.go, g1, g3], g4⟩
   ·cases h
  ·cases h
end
theorem Awo {rs : List Sh} {p : ET × Option TypeId} (hp : p ∈ shL rs) (h : Avs p = true) : Ax9 rs = true := by
 unfold Ax9; exact List.any_eq_true.2 ⟨p, hp, h⟩
theorem Lp {f : Nat} {fn : Func} {ps rs : List Sh} {F : LTy (shL ps) → Option (LTy (shL rs))} {RUN : S → Option (LTy (shL rs))} (hE : Ent P f)
  (hrun : ∀ x y pvs, args ps x = some pvs → F x = some y → RUN ⟨Hi 0 pvs, argI ps x, []⟩ = some y)
  (hcalls : ∀ (Z : Fix) (A : Reg) (L : List MD) (w : World) (s : S) (y : LTy (shL rs)) (vs : List Value) (Q : Ending → World → Prop), Z.gl = T.gl → Rel Z s [] A L (Ab8 vs) w → vs.length = ps.length → RUN s = some y →
   (∀ s' A' L' σ' w', Abd P rs fn.results.toList s' = some y → Rel Z s' [] A' L' σ' w' → ∃ us, Wk P σ' w' fn.results.toList us ∧ Q (.returned (packRes us)) w') → Calls P f vs.toArray w Q) : ConOk P T.gl f ⟨ps, rs, F⟩ := by
 refine ⟨hE, fun R N w L0 vs pvs x y hx hlen0 hit0 hmob0 hvs hgl hy => ?_⟩
 have hx' : args ps x = some pvs := hx
 have hy' := hrun x y pvs hx' hy
 ·let Z : Fix := ⟨fun b => ((R b ∧ N b) ∨ ∃ p ∈ T.gl, p.1 = b) ∨ ¬ N b ∨ w.heap.size ≤ b, fun b => ¬ N b, w, fun b hb => .inr (.inr hb), fun b hb => .inr (.inl hb), T.gl, fun p hp => ⟨.inl (.inr ⟨p, hp, rfl⟩), fun h => h (hgl p hp).2.1, (hgl p hp).1, (hgl p hp).2.2⟩⟩
  have hval : Qk.go pvs = true := by
   unfold args Aad at hx'
   split at hx'
   ·rename_i us hs
    cases hx'
    exact (Ac0 hs (Alu _ _ _)).1
   ·cases hx'
  have hvs2 : EncVs (fun b => (b < w.heap.size ∧ N b) ∧ Z.R b) w L0 pvs vs := EncVs.step (fun b hb => ⟨⟨hb.1, hb.2.2⟩, .inl (.inl hb.2)⟩) (fun _ _ => rfl) (.refl L0) (Ajr hval hvs)
  have hst : St (fun b => b < w.heap.size ∧ N b) w [.old Z.M Z.w0] (L0.map MD.Cv) := by
   refine ⟨fun b hb => hb.1, fun f hf => ?_, hmob0.Ia fun b hb => hb.2⟩
   cases hf with
   | head => exact ⟨.refl _, fun b hb hM => ⟨⟨hb, Classical.not_not.1 hM⟩, rfl⟩⟩
   | tail _ h => cases h
  have hr : Rel Z ⟨Hi 0 pvs, argI ps x, []⟩ [] (fun b => b < w.heap.size ∧ N b) L0 (Ab8 vs) w :=
   Rel.as (L := L0) hst (i := 0) rfl ⟨⟨hlen0, fun i a m h1 h2 => by
    have h3 := hit0 i a m h1 h2
    obtain ⟨E, e', l, rfl⟩ := Ak8 (shL ps) x ⟨[], [], []⟩ (by simp) a (List.mem_of_getElem? h1)
    cases m with
    | dead => exact h3
    | box _ _ _ => exact h3
    | own z E2 v2 c2 => exact ⟨h3.1, h3.2.1, h3.2.2.mono fun x c h => Af.step (fun b hb => ⟨⟨hb.1, hb.2.2⟩, .inl (.inl hb.2)⟩) (fun _ _ => rfl) (Ii h)⟩⟩,
    Yq hvs2 (fun i v hi => by rw [Nat.zero_add]; exact Amq hi), trivial⟩ rfl
  have hlen : vs.length = pvs.length := hvs.length
  have hpl : pvs.length = ps.length := by
   unfold args Aad at hx'
   split at hx'
   ·rename_i us hs
    cases hx'
    have key : ∀ (l : List Sh) (vs r us : List PV), Fc.go l vs = some (us, r) → us.length = l.length := by
     intro l
     induction l with
     | nil => intro vs r us h; simp only [Fc.go, Option.some.injEq, Prod.mk.injEq] at h; obtain ⟨rfl, _⟩ := h; rfl
     | cons a l ih =>
      intro vs r us h
      simp only [Fc.go] at h
      split at h
      ·split at h
       ·rename_i h2; cases h; simp [ih _ _ _ h2]
       ·cases h
      ·cases h
    exact key _ _ _ _ hs
   ·cases hx'
  refine hcalls Z _ _ w _ y vs _ rfl hr (hlen.trans hpl) hy' ?_
  intro s' A' L' σ' w' h1 hr'
  have fin : Abd P rs fn.results.toList s' = some y → ∃ us, Wk P σ' w' fn.results.toList us ∧ ∃ us', Ending.returned (packRes us) = .returned (packRes us') ∧ ResOk T.gl R N w w' rs y us' := by
   intro h1
   unfold Abd at h1
   split at h1
   ·cases h1
   ·rename_i ls0 hls0
    split at h1
    ·cases h1
    ·rename_i s1 hs1
     obtain ⟨A1, L1, hr1, _⟩ := Ew hr' hs1
     split at h1
     ·rename_i ls hls
      obtain ⟨ho, h1⟩ := Ag h1
      unfold Az0 at hls
      split at hls
      ·rename_i vs1 hvs1
       obtain ⟨us, hus, huv⟩ := Agu hr1 hvs1
       refine ⟨us, hus, us, rfl, ?_⟩
       have hold := hr1.fact 1 (f := .old Z.M Z.w0) rfl
       have hA : ∀ b, b < w.heap.size → N b → A1 b := fun b hb hN => (hold.2 b hb (fun h => h hN)).1
       have hkeep : KeepN N w w' := ⟨fun b hb hN => (hold.2 b hb (fun h => h hN)).2, hold.1⟩
       have hmob := Au0 (St.mobs hr1) (shL rs)
       obtain ⟨hd, hidx⟩ := Aa0 (s := s1) (c := L1.length) ho (by rw [hr1.len]; exact Nat.le_refl _)
       refine ⟨hkeep, fun b => A1 b ∧ (¬ N b ∨ w.heap.size ≤ b), (Ck (shL rs) ls L1.length).map (fun i => (L1 ++ Qg (shL rs)).getD i .dead), fun b hb => ⟨hb.2, St.lt hr1 b hb.1⟩, ?_, ?_⟩
       ·refine (Ank hmob hd).Ia ?_
        rintro b (hb | hb)
        ·exact hb.1
        ·exact hA b hb.1 hb.2
       ·intro s0 L0 B' hL0 hB1 hB2
        obtain ⟨its, g1, g2, g3, g4⟩ := Aj4 hr1 (B' := B') (LP := L1 ++ Qg (shL rs)) (fun i m hi => by rw [List.getElem?_append_left (List.getElem?_eq_some_iff.1 hi).1]; exact hi) (shL rs) ls y [] L1.length s0 L0 _ ho h1
         (fun p hp hl b hb => by
          rcases hb.2 with hR | hN
          ·exact hB2 (Awo hp hl) b hR
          ·exact hB1 b ⟨hb.1, hN⟩)
         (fun i m hi => by rw [List.getElem?_append_right (by omega), Nat.add_sub_cancel_left]; exact hi) hL0 rfl
        obtain ⟨ps', g5, g6⟩ := Afy hls huv g3
        exact ⟨ps', its, g1, g5, g6, by rw [g2]; simp, g4⟩
      ·cases hls
     ·cases h1
  obtain ⟨us, k1, us', k2, k3⟩ := fin h1
  exact ⟨us, k1, us', k2, k3⟩
theorem Arz (hMix : P.follows .mixedOrders = true) {f : Nat} {fn : Func} {ans : List (Nat × An)} {an : An} {ps rs : List Sh} {F : LTy (shL ps) → Option (LTy (shL rs))} (hf : P.funcs[f]? = some fn) (hE : Ent P f) (hT : Jj P T) (hA : ∀ p ∈ ans, Ent P p.1)
  (hle : Nat.ble ps.length fn.ntmps = true) (h : ∀ x, run P T ans fn an ps rs x = F x) : ConOk P T.gl f ⟨ps, rs, F⟩ := by
 cases hc : fn.body with
 | none =>
  refine Lp (RUN := fun _ => none) (fn := fn) hE (fun x y pvs hx hy => ?_) (fun _ _ _ _ _ _ _ _ _ _ _ h => by cases h)
  rw [← h x] at hy
  unfold run at hy
  rw [hc] at hy
  exact hy
 | some c =>
  refine Lp (T := T) (fn := fn) (RUN := ex P T (Jp P T 8 ans) fn.ntmps c an { n := Abd P rs fn.results.toList, x := fun _ _ => none, r := Abd P rs fn.results.toList }) hE (fun x y pvs hx hy => ?_) ?_
  ·rw [← h x] at hy
   unfold run at hy
   rw [hc, hx] at hy
   exact hy
  ·intro Z A L w s y vs Q hZ hr hl hy fin
   refine Ak3 (rs := fn.results.toList) hf hc rfl (by simp) (by rw [hl]; exact hle) (W.mono (Ahd hMix ⟨hT, hZ⟩ (Ae5 hMix hT hA 8) c hy hr) ?_)
   rintro e σ' w' ⟨s', A', L', h1, hr'⟩
   cases e with
   | normal => exact ⟨.inr rfl, fin s' A' L' σ' w' h1 hr'⟩
   | ret => exact ⟨.inl rfl, fin s' A' L' σ' w' h1 hr'⟩
   | exit id => cases h1
   | goto l => cases h1
   | panic c => cases h1
   | outgrown => cases h1
end Go.Rx
set_option linter.unusedVariables false
namespace Go.Rx
open Go Go.Lv
structure Pt (R : Type) where
 q : Nat
 n : Nat
 c : Code
 an : An
 k : K R
inductive PS (R : Type) | l | r | d | lp (kn : S → Option R) | call (i f : Nat) | dcall (i f fuel : Nat) (z listed : Array Bool)
def Ars (f : Func) : Code := match f.body with | some c => c | none => .skip
variable {R : Type}
noncomputable def Pt.e (P : Program) (T : Tab) (ans : List (Nat × An)) (p : Pt R) (s : S) : Option R := match p.c with
 | .loop _ => ex P T (Jp P T p.q ans) p.n p.c p.an p.k s
 | _ => hold (fun s => ex P T (Jp P T p.q ans) p.n p.c p.an p.k s) s
noncomputable def Pt.it (P : Program) (T : Tab) (ans : List (Nat × An)) (p : Pt R) (q : Nat) (s : S) : Option R := match p.c with
 | .loop a => iter p.an (fun kn s' => ex P T (Jp P T p.q ans) p.n a p.an.l { p.k with n := kn } s') q s
 | _ => none
noncomputable def Pt.step (P : Program) (T : Tab) (ans : List (Nat × An)) (p : Pt R) : PS R → Pt R
 | .l => match p.c with
  | .seq a b => ⟨p.q, p.n, a, p.an.l, { p.k with n := Aku p.an fun s' => ex P T (Jp P T p.q ans) p.n b p.an.r p.k s' }⟩
  | .cond _ a _ => ⟨p.q, p.n, a, p.an.l, p.k⟩
  | _ => p
 | .r => match p.c with
  | .seq _ b => ⟨p.q, p.n, b, p.an.r, p.k⟩
  | .cond _ _ b => ⟨p.q, p.n, b, p.an.r, p.k⟩
  | _ => p
 | .d => match p.c with
  | .block id a => ⟨p.q, p.n, a, p.an.l, { p.k with x := fun id' s' => Ba (Nat.beq id' id ) (p.k.n s' ) <| p.k.x id' s' }⟩
  | _ => p
 | .lp kn => match p.c with
  | .loop a => ⟨p.q, p.n, a, p.an.l, { p.k with n := Oy p.an kn }⟩
  | _ => p
 | .call i f => match p.c, p.q, P.funcs[f]?, Jp.getAn ans f with
  | .region _ ops false, q + 1, some fn, some an =>
   let fin := Jp.finK P fn.results.toList fun s v => Ab5 P T (Aol p.an (Jp P T (q + 1) ans)) p.n ops (ops.toList.drop (i + 1)) (s.Cg ((ops[i]?).bind (·.dst)) v) p.k.n
   ⟨q, fn.ntmps, Ars fn, an, { n := fin, x := fun _ _ => none, r := fin }⟩
  | _, _, _, _ => p
 | .dcall i f fuel z listed => match p.c, p.q, P.funcs[f]?, Jp.getAn ans f with
  | .region _ ops true, q + 1, some fn, some an =>
   let fin := Jp.finK P fn.results.toList fun s v => Po P T (Aol p.an (Jp P T (q + 1) ans)) p.n (Agc p.an) ops fuel z listed (s.Cg ((ops[i]?).bind (·.dst)) v) p.k.n
   ⟨q, fn.ntmps, Ars fn, an, { n := fin, x := fun _ _ => none, r := fin }⟩
  | _, _, _, _ => p
noncomputable def Pt.at (P : Program) (T : Tab) (ans : List (Nat × An)) : Pt R → List (PS R) → Pt R
 | p, [] => p
 | p, x :: l => Pt.at P T ans (p.step P T ans x) l
noncomputable def Pt.root (P : Program) (fn : Func) (an : An) (rs : List Sh) : Pt (LTy (shL rs)) :=
 ⟨8, fn.ntmps, Ars fn, an, { n := Abd P rs fn.results.toList, x := fun _ _ => none, r := Abd P rs fn.results.toList }⟩
noncomputable def PE (P : Program) (T : Tab) (ans : List (Nat × An)) (fn : Func) (an : An) (rs : List Sh) (l : List (PS (LTy (shL rs)))) (s : S) : Option (LTy (shL rs)) := (Pt.at P T ans (Pt.root P fn an rs) l).e P T ans s
noncomputable def PI (P : Program) (T : Tab) (ans : List (Nat × An)) (fn : Func) (an : An) (rs : List Sh) (l : List (PS (LTy (shL rs)))) (q : Nat) (s : S) : Option (LTy (shL rs)) := (Pt.at P T ans (Pt.root P fn an rs) l).it P T ans q s
theorem Aju (a : Option R) : both a [a, a] = a := by simp [both]
theorem Akz (a : Option R) : both a [a, a, a] = a := by simp [both]
end Go.Rx
namespace Go.Rx
open Go Go.Lv
theorem ConOk.mono {P : Program} {gl gl' : List (Nat × List Value)} {f : Nat} {c : Con} (h : ConOk P gl f c) (hs : gl.Sublist gl') : ConOk P gl' f c := by
 refine ⟨h.ent, fun R N w L0 vs ps x y h1 h2 h3 h4 h5 h6 h7 => (h.ok R N w L0 vs ps x y h1 h2 h3 h4 h5 (fun p hp => h6 p (hs.subset hp)) h7).mono ?_⟩
 rintro e w' ⟨us, he, hk, A1, L1, g1, g2, g3⟩
 exact ⟨us, he, hk, A1, L1, g1, g2, fun s L B' k1 k2 k3 => g3 s L B' k1 k2 fun hr b hb => k3 hr b (hb.imp id fun ⟨p, hp, he⟩ => ⟨p, hs.subset hp, he⟩)⟩
theorem Jj.nil {P : Program} {gl : List (Nat × List Value)} {vw : Bool} : Jj P ⟨[], gl, vw⟩ := fun f c h => by cases h
theorem Jj.cons {P : Program} {g : Nat} {c : Con} {r : List (Nat × Con)} {gl : List (Nat × List Value)} {vw : Bool} (h : ConOk P gl g c) (hr : Jj P ⟨r, gl, vw⟩) : Jj P ⟨(g, c) :: r, gl, vw⟩ := fun f c' h' => by
 simp only [Tab.get, Azy] at h'
 cases hb : Nat.beq g f with
 | true =>
  rw [hb] at h'
  have := Az hb
  subst this
  cases h'; exact h
 | false => rw [hb] at h'; exact hr f c' h'
theorem AnsOk.nil {P : Program} : ∀ p ∈ ([] : List (Nat × An)), Ent P p.1 := by simp
theorem AnsOk.cons {P : Program} {g : Nat} {a : An} {r : List (Nat × An)} (h : Ent P g) (hr : ∀ p ∈ r, Ent P p.1) : ∀ p ∈ (g, a) :: r, Ent P p.1 := by
 intro p hp
 rcases List.mem_cons.1 hp with rfl | hp
 ·exact h
 ·exact hr p hp
end Go.Rx
namespace Go.Rx
variable {R α : Type}
theorem Fz {a b c : Option R} (h : a = c) (h1 : b = c) : both a [b] = c := by subst h; subst h1; exact Agh _
theorem Gg {a b d c : Option R} (h : a = c) (h1 : b = c) (h2 : d = c) : both a [b, d] = c := by subst h; subst h1; subst h2; exact Aju _
theorem Fy {a b d e c : Option R} (h : a = c) (h1 : b = c) (h2 : d = c) (h3 : e = c) : both a [b, d, e] = c := by subst h; subst h1; subst h2; subst h3; exact Akz _
theorem It {l : List α} {a b c : Option R} (h : l = [] → a = c) (h1 : b = c) : Amg l a b = c := by subst h1; exact Axr h
theorem Jd {o : Option α} {f g : α → Option R} (h : ∀ x, f x = g x) : Option.bind o f = Option.bind o g := by rw [funext h]
theorem Du {o : Option α} {f : α → Option R} {t : Option R} (h : o = none → none = t) (h1 : ∀ x, o = some x → f x = t) : Option.bind o f = t := by
 cases o with
 | none => exact h rfl
 | some x => exact h1 x rfl
theorem Jc (f : α → Option R) : Option.bind none f = none := rfl
theorem Cw (x : α) (f : α → Option R) : Option.bind (some x) f = f x := rfl
theorem Cn (o : Option α) : Option.bind o (fun _ => (none : Option R)) = none := by cases o <;> rfl
theorem Nt {c : Prop} [Decidable c] {a b a' b' : Option R} (h : c → a = a') (h1 : ¬ c → b = b') : (if c then a else b) = if c then a' else b' := by
 by_cases hc : c
 ·rw [if_pos hc, if_pos hc]; exact h hc
 ·rw [if_neg hc, if_neg hc]; exact h1 hc
theorem Eu {c : Prop} [Decidable c] {a b t : Option R} (h : c → a = t) (h1 : ¬ c → b = t) : (if c then a else b) = t := by
 by_cases hc : c
 ·rw [if_pos hc]; exact h hc
 ·rw [if_neg hc]; exact h1 hc
abbrev vi (x : Int) : PV := .val (.int .i64) x
abbrev vc (x : UInt8) : PV := .val (.int .u8) x
abbrev vu (x : UInt32) : PV := .val (.int .u32) x
abbrev vq (x : UInt64) : PV := .val (.int .u64) x
abbrev vx (x : Int32) : PV := .val (.int .i32) x
abbrev vt (x : Bool) : PV := .val .bool x
abbrev vs (x : List UInt8) : PV := .val .str x
abbrev vb (x : List UInt8) : PV := .val (.list (.int .u8)) x
abbrev vl (x : List Int) : PV := .val (.list (.int .i64)) x
abbrev vw (x : List Int32) : PV := .val (.list (.int .i32)) x
abbrev vv (x : List UInt32) : PV := .val (.list (.int .u32)) x
end Go.Rx
set_option linter.unusedVariables false
namespace Go.Rx
open Go Go.Lv
structure Hd where
 p : List Sh
 r : List Sh
 a : An
 T : Tab
 s : List (Nat × An)
 f : Func
noncomputable def Hd.e (P : Program) (H : Hd) : List (PS (LTy (shL H.r))) → S → Option (LTy (shL H.r)) := PE P H.T H.s H.f H.a H.r
noncomputable def Hd.i (P : Program) (H : Hd) : List (PS (LTy (shL H.r))) → Nat → S → Option (LTy (shL H.r)) := PI P H.T H.s H.f H.a H.r
noncomputable def Hd.u (P : Program) (H : Hd) (x : LTy (shL H.p)) : Option (LTy (shL H.r)) := run P H.T H.s H.f H.a H.p H.r x
def okH (H : Hd) : Bool := (!(H.f.name == "runtime.NumGoroutine") && H.f.body.isSome) && Nat.ble H.p.length H.f.ntmps
theorem Hd.con {P : Program} (hM : P.follows .mixedOrders = true) (H : Hd) {f : Nat} {F : LTy (shL H.p) → Option (LTy (shL H.r))} (hf : P.funcs[f]? = some H.f) (hT : Jj P H.T) (hA : ∀ p ∈ H.s, Ent P p.1)
  (hb : okH H = true) (h : ∀ x, H.u P x = F x) : ConOk P H.T.gl f ⟨H.p, H.r, F⟩ := by
 simp only [okH, Bool.and_eq_true, Bool.not_eq_true'] at hb
 obtain ⟨c, hc⟩ := Option.isSome_iff_exists.1 hb.1.2
 exact Arz (T := H.T) hM hf (Ent.mk hf hb.1.1 hc) hT hA hb.2 h
theorem Hd.Bbg {P : Program} (hM : P.follows .mixedOrders = true) (H : Hd) {f : Nat} {F : LTy (shL H.p) → Option (LTy (shL H.r))} (hf : P.funcs[f]? = some H.f) (hT : Jj P H.T)
  (hb : (H.s.isEmpty && okH H) = true) (h : ∀ x, H.u P x = F x) : ConOk P H.T.gl f ⟨H.p, H.r, F⟩ := by
 rw [Bool.and_eq_true, List.isEmpty_iff] at hb
 exact Hd.con hM H hf hT (fun p hp => by rw [hb.1] at hp; cases hp) hb.2 h
theorem ind {p : Nat → Prop} (h : p 0) (hs : ∀ q, p q → p (q + 1)) : ∀ q, p q := fun q => Nat.rec h hs q
variable {R α : Type}
noncomputable abbrev bo (a : Option R) : Option R := both a [a]
noncomputable abbrev bo2 (a : Option R) : Option R := both a [a, a]
theorem Ahw (a : Option R) : both a [a] = a := Agh a
theorem Xl (a : Option R) : both a [a, a] = a := Aju a
theorem Aaf (a : Option R) : both a [a, a, a] = a := Akz a
abbrev Si : Sh := .lf (.int .i64) none
abbrev Sc : Sh := .lf (.int .u8) none
abbrev Su : Sh := .lf (.int .u32) none
abbrev Sq : Sh := .lf (.int .u64) none
abbrev Sx : Sh := .lf (.int .i32) none
abbrev Sz : Sh := .lf .bool none
abbrev Ss : Sh := .lf .str none
abbrev Sb : Sh := .lf (.list (.int .u8)) none
abbrev Sl : Sh := .lf (.list (.int .i64)) none
abbrev Sw : Sh := .lf (.list (.int .i32)) none
abbrev Sv : Sh := .lf (.list (.int .u32)) none
abbrev Ob (e : Nat) : Sh := .lf (.list (.int .u8)) (some e)
abbrev Ol (e : Nat) : Sh := .lf (.list (.int .i64)) (some e)
abbrev Ow (e : Nat) : Sh := .lf (.list (.int .i32)) (some e)
abbrev Ov (e : Nat) : Sh := .lf (.list (.int .u32)) (some e)
abbrev Ai (e : Nat) (l : List Int) : Item := .arr e (.int .i64) l
abbrev Ab (e : Nat) (l : List UInt8) : Item := .arr e (.int .u8) l
abbrev Aw (e : Nat) (l : List Int32) : Item := .arr e (.int .i32) l
abbrev Av (e : Nat) (l : List UInt32) : Item := .arr e (.int .u32) l
abbrev An.q (a : An) : An := .seq .d a
end Go.Rx
set_option linter.unusedVariables false
set_option linter.unusedSimpArgs false
namespace Go.Rx
open Go Go.Lv Go.RowKit
variable {P : Program}
theorem Mh {B : Reg} {w : World} {k : Kd} : ∀ (l : List k.T), Ax (Af B w (.int k)) l (Go.Lv.Jh (k := k.k) l)
 | [] => rfl
 | x :: l => ⟨[iv (T := k.T) (k := k.k) x], Go.Lv.Jh (k := k.k) l, rfl, rfl, Mh l⟩
theorem Rd.Ia {A B : Reg} {w : World} {s : Nat} {v : Value} {cs : List Value} (h : Rd A w s v cs) (ha : ∀ b, A b → B b) : Rd B w s v cs := h.step ha fun _ _ => rfl
theorem enc_row {w : World} {k : Kd} {v : Value} {l : List k.T} (h : Rd (fun _ => True) w 1 v (Go.Lv.Jh (k := k.k) l)) : EncV (fun _ => True ∧ True) w [] (.val (.list (.int k)) l) v :=
 ⟨v, _, rfl, Rd.Ia h fun _ _ => ⟨trivial, trivial⟩, Mh l⟩
theorem enc_iv {w : World} {k : Kd} (x : k.T) : EncV (fun _ => True ∧ True) w [] (.val (.int k) x) (iv (T := k.T) (k := k.k) x) := rfl
theorem encs_nil {B : Reg} {w : World} : EncVs B w [] [] [] := rfl
theorem encs_cons {B : Reg} {w : World} {p : PV} {ps : List PV} {v : Value} {vs : List Value} (h : EncV B w [] p v) (hs : EncVs B w [] ps vs) : EncVs B w [] (p :: ps) (v :: vs) := ⟨v, vs, rfl, h, hs⟩
theorem row_true {gl : List (Nat × List Value)} {f : Nat} {ps : List Sh} {F : LTy (shL ps) → Option Bool} (hC : ConOk P gl f ⟨ps, [.lf .bool none], F⟩) {x : LTy (shL ps)} {pvs : List PV} {vs : List Value} (ha : args ps x = some pvs) (hi : argI ps x = []) {w : World}
  (hv : EncVs (fun _ => True ∧ True) w [] pvs vs) (hg : GlOk gl (fun _ => True) w) (hF : F x = some true) : Calls P f vs.toArray w fun e w' => e = .returned (.bool true) ∧ Below w.heap.size w w' := by
 refine (hC.ok (fun _ => True) (fun _ => True) w [] vs pvs x true ha (by rw [hi]; rfl) (fun i a m h => by rw [hi] at h; simp at h) trivial hv hg hF).mono ?_
 rintro e w' ⟨us, rfl, hk, A1, L1, g1, g2, g3⟩
 obtain ⟨qs, its, k1, k2, k3, k4, k5⟩ := g3 ⟨[], [], []⟩ [] (fun _ => True) rfl (fun _ _ => trivial) (fun _ _ _ => trivial)
 refine ⟨?_, ⟨hk.gr.os, hk.gr.tape, hk.gr.output, hk.gr.le, fun b hb => hk.same b hb trivial⟩⟩
 obtain rfl := Option.some.inj (show some [PV.val .bool true] = some qs from k2)
 obtain ⟨_, _, rfl, e1, rfl⟩ := k3
 cases (show [_] = [Value.bool true] from e1)
 rfl
theorem laid_ints {H : Type} {enc : TypeId × Value → H} {w : World} {fuel : Nat} {t e n : Nat} {k : IntKind} {cs : List Value} {zs : List Int} {p : List MemPlace} (hu : P.underlying t = some (.array n e)) (he : P.underlying e = some (.int k)) (hc : P.cellsOf e = 1) (ht : P.cellsOf t = n)
  (h : DataW.trod enc P w 0 (fun _ => true) false fuel t cs = some (.agg (zs.map fun z => .lit (.int k z)), p)) : cs = zs.map fun z => Value.int k z := by
 obtain ⟨xs, m, rfl, hx, hlen, hn, hel⟩ := DataW.trod_array hu h
 simp only [Prod.mk.injEq, DataW.agg.injEq] at hx
 rw [ht] at hlen
 have hz : zs.length = n := by
  have := congrArg List.length hx.1
  simpa [hn] using this
 apply List.ext_getElem?
 intro i
 by_cases hi : i < n
 ·have h0 := hel i hi
  rw [hc, Nat.mul_one] at h0
  have hxi : xs[i]? = some xs[i] := List.getElem?_eq_getElem (by omega)
  rw [hxi] at h0
  obtain ⟨q, e1, e2, _⟩ := DataW.trod_int he h0
  have e3 : (cs.drop i).take 1 = [cs[i]'(by omega)] := by
   rw [List.drop_eq_getElem_cons (by omega)]; rfl
  rw [e3] at e1
  have e4 : (xs.map (·.1))[i]? = (zs.map fun z => (DataW.lit (.int k z) : DataW H))[i]? := by rw [← hx.1]
  rw [List.getElem?_map, List.getElem?_map, hxi, List.getElem?_eq_getElem (by omega), e2] at e4
  simp only [Option.map_some, Option.some.injEq, DataW.lit.injEq, Lit.int.injEq, true_and] at e4
  rw [List.getElem?_map, List.getElem?_eq_getElem (by omega), List.getElem?_eq_getElem (by omega)]
  simp only [List.cons.injEq, and_true] at e1
  rw [e1, e4]; rfl
 ·rw [List.getElem?_eq_none (by omega), List.getElem?_eq_none (by simp; omega)]
theorem glOk_cons {n : String} {g : Nat} {cs : Array Value} {l : List Value} {gl : List (Nat × List Value)} {w : World} (hg : P.globalNamed n = some g) (hv : w.var? P n = some cs) (hl : cs.toList = l) (h : GlOk gl (fun _ => True) w) : GlOk ((g, l) :: gl) (fun _ => True) w := by
 intro p hp
 rcases List.mem_cons.1 hp with rfl | hp
 ·simp only [World.var?, hg, Option.bind_some] at hv
  split at hv
  ·rename_i cs' T fr hh
   cases hv
   refine ⟨(Array.getElem?_eq_some_iff.1 hh).1, trivial, T, fr, ?_⟩
   rw [hh, ← hl]
  ·cases hv
 ·exact h p hp
theorem glOk_nil {w : World} {N : Reg} : GlOk [] N w := fun p hp => by simp at hp
end Go.Rx
set_option linter.unusedVariables false
namespace Go.Rx
open Go Go.Lv Go.RowKit Go.ChangeShapes Go.WideShapes
variable {P : Program}
theorem fld {H : Type} {enc : TypeId × Value → H} {w : World} {base : Nat} {spare : Nat → Bool} {held : Bool} {fuel : Nat} {t : TypeId} {fs : Array Field} {cs : List Value} {x : DataW H × List MemPlace} (ht : P.underlying t = some (.struct fs)) (h : DataW.trod enc P w base spare held fuel t cs = some x)
  (i : Nat) {ft : TypeId} {off k : Nat} {part : List Value} (hf : (fs[i]?).map (fun f => (f.type, f.offset)) = some (ft, off)) (hc : P.cellsOf ft = k) (hd : (cs.drop off).take k = part) : ∃ n y, DataW.trod enc P w base spare held n ft part = some y := by
 obtain ⟨xs, n, _, _, _, hn, hel⟩ := DataW.trod_struct ht h
 cases hi : fs[i]? with
 | none => rw [hi] at hf; cases hf
 | some f =>
  rw [hi] at hf
  cases hf
  have g := hel i f hi
  rw [hc, hd, List.getElem?_eq_getElem (by rw [hn]; exact (Array.getElem?_eq_some_iff.1 hi).1)] at g
  exact ⟨n, _, g⟩
end Go.Rx
set_option linter.unusedVariables false
namespace Go.Rx
open Go Go.Lv Go.RowKit Go.ChangeShapes Go.WideShapes
variable {P : Program}
end Go.Rx
set_option linter.unusedVariables false
set_option linter.unusedSimpArgs false
namespace Go.Rx
open Go Go.Lv Go.RowKit
def SeqD (P : Program) (m : Nat) (gf : Nat) (lb : Array Value) (N : Nat) (E : Nat → Reg → World → Value → Prop) (V0 : Reg) (w : World) : Prop :=
 ∀ (l : Nat) (J : Nat → Reg → World → Prop) (Jx : World → Prop) (W : World), KeepN (fun _ => True) w W →
  (∀ i V X Y, J i V X → KeepN (fun _ => True) X Y → J i (fun b => V b ∨ (X.heap.size ≤ b ∧ b < Y.heap.size)) Y) →
  (∀ X Y, Jx X → KeepN (fun _ => True) X Y → Jx Y) →
  (∀ i V W1 v, i < N → J i V W1 → E i V W1 v → YieldAt (wr none) (m - 1) P l #[v] W1 fun e W' =>
   (e = .returned (.bool true) ∧ J (i + 1) V W' ∧ Gr W1 W' ∧ ∀ b, V b → W'.heap[b]? = W1.heap[b]?) ∨ (e = .returned (.bool false) ∧ Jx W')) →
  J 0 V0 W →
  CallsIn (wr none) m P gf (#[.func (.yield l) #[] #[]] ++ lb) W fun e W' => (∃ v, e = .returned v) ∧ ((∃ V, J N V W') ∨ Jx W')
def Azk (B : Nat) (I : Reg → World → Prop) (Ix : Code → World → Prop) (V : Reg) (W : World) : Exit → Act → World → Prop
 | .normal, _, W' => (∀ b, (b = B ∨ b = B + 1 ∨ V b) → W'.heap[b]? = W.heap[b]?) ∧ Gr W W' ∧ I V W'
 | .ret, _, W' => (∀ b, (b = B ∨ b = B + 1) → W'.heap[b]? = W.heap[b]?) ∧ Gr W W' ∧ Ix .ret W'
 | .exit id, _, W' => (∀ b, (b = B ∨ b = B + 1) → W'.heap[b]? = W.heap[b]?) ∧ Gr W W' ∧ Ix (.exit id) W'
 | _, _, _ => False
theorem Agm (W : World) (l : Nat) (o : Obj) : Gr W (W.putObj l o) := by
 have h := grownBy_putObj' W l o
 exact ⟨h.size, h.os, h.tape, h.output⟩
theorem Apj (W : World) (o : Obj) : Gr W (W.alloc o) := by
 have h := World.grownBy_alloc W o none
 exact ⟨h.size, h.os, h.tape, h.output⟩
theorem Aw0 {P : Program} {n : Nat} {g : Operand} {ps : Array Tmp} {assign body : Code} {Q : Exit → Act → World → Prop} {a : Act} {w : World}
  {gf : Nat} {lb : Array Value} (hg : a.eval g = .func (.func gf) #[] lb) (eg : Ent P gf) {N : Nat} {E : Nat → Reg → World → Value → Prop} {V0 : Reg} (hseq : SeqD P (n - 1) gf lb N E V0 w) (hps : ps.size = 1)
  (I : Nat → Reg → World → Prop) (Ix : Code → World → Prop)
  (hI : ∀ i V X Y, I i V X → w.heap.size + 1 < X.heap.size → KeepN (fun _ => True) X Y → I i (fun b => V b ∨ (X.heap.size ≤ b ∧ b < Y.heap.size)) Y)
  (hIx : ∀ c X Y, Ix c X → KeepN (fun _ => True) X Y → Ix c Y)
  (hIr : ∀ i V X (r r' : Loop), I i V X → X.heap[w.heap.size + 1]? = some (.loop r) → I i V (X.putObj (w.heap.size + 1) (.loop r')))
  (hIxr : ∀ c X (r r' : Loop), Ix c X → X.heap[w.heap.size + 1]? = some (.loop r) → Ix c (X.putObj (w.heap.size + 1) (.loop r')))
  (hV : ∀ i V W, I i V W → ¬ V (w.heap.size + 1))
  (h0 : ∀ W, KeepN (fun _ => True) w W → I 0 V0 W)
  (hround : ∀ i V W v (r : Loop), i < N → I i V W → E i V W v → W.heap[w.heap.size + 1]? = some (.loop r) → W.heap[w.heap.size]? = some (.deferred (some [])) →
   assign.wpIn (wr (some (w.heap.size + 1))) (n - 1 - 1) P (Exit.then (fun a' W' => (∀ b, (b = w.heap.size ∨ b = w.heap.size + 1 ∨ V b) → W'.heap[b]? = W.heap[b]?) ∧ Gr W W' ∧
    ∀ r', body.wpIn (wr (some (w.heap.size + 1))) (n - 1 - 1) P (Azk w.heap.size (I (i + 1)) Ix V (W'.putObj (w.heap.size + 1) (.loop r'))) a' (W'.putObj (w.heap.size + 1) (.loop r'))) (fun _ _ _ => False))
    { tmps := (ps.zip #[v]).foldl (fun t (p, v) => t.setIfInBounds p v) a.tmps, defers := [] } W)
  (hdone : ∀ V W, I N V W → W.heap[w.heap.size]? = some (.deferred (some [])) → Q .normal { a with defers := { target := .collected w.heap.size, args := #[] } :: a.defers } W)
  (hstop : ∀ c W, Ix c W → W.heap[w.heap.size]? = some (.deferred (some [])) → c.wpIn (wr none) n P Q { a with defers := { target := .collected w.heap.size, args := #[] } :: a.defers } W) :
  (Code.rangeFunc g ps assign body).wpIn (wr none) n P Q a w := by
 refine wpIn_rangeFunc ?_
 intro fn hfn
 obtain ⟨rec, hrec⟩ : ∃ rec : LoopState → Option Code → Loop, rec = fun st pe => { state := st, pending := pe, fn, tmps := a.tmps, params := ps, assign, body, defers := w.heap.size } := ⟨_, rfl⟩
 obtain ⟨W1, hW1⟩ : ∃ W1, (w.alloc (.deferred (some []))).alloc (.loop (rec .ready none)) = W1 := ⟨_, rfl⟩
 have hL1 : W1.heap[w.heap.size + 1]? = some (.loop (rec .ready none)) := by
  rw [← hW1]; have := World.alloc_heap_new (w.alloc (.deferred (some []))) (.loop (rec .ready none)); rwa [World.size_alloc] at this
 have hK1 : W1.heap[w.heap.size]? = some (.deferred (some [])) := by
  rw [← hW1]; exact (Below.heap_alloc _ _ _ (by simp)).trans (World.alloc_heap_new w _)
 have hk1 : KeepN (fun _ => True) w W1 := by
  rw [← hW1]
  refine ⟨fun b hb _ => ?_, (Apj _ _).trans (Apj _ _)⟩
  exact (Below.heap_alloc _ _ _ (by simp; omega)).trans (Below.heap_alloc _ _ _ hb)
 refine ⟨w.heap.size + 1, [{ target := .collected w.heap.size, args := #[] }], W1, { target := .fn (.func gf) lb, args := #[.func (.yield (w.heap.size + 1)) #[] #[]] }, W1, gf,
  #[.func (.yield (w.heap.size + 1)) #[] #[]] ++ lb, W1, ?_, ?_, ?_, ?_, (fun h => by simp [wr, Fence.wide] at h), ?_⟩
 ·rw [← hW1, hrec]; exact run_enterLoop_outer _ _ _ _ _
 ·simp only [resolve, hg]
  simp [go_sem]
 ·intro f' hf'; trivial
 ·simp [invoke, go_sem, eg _ _]
 ·refine (hseq (w.heap.size + 1)
   (fun i V W => I i V W ∧ W.heap[w.heap.size + 1]? = some (.loop (rec .ready none)) ∧ W.heap[w.heap.size]? = some (.deferred (some [])))
   (fun W => ∃ c, Ix c W ∧ W.heap[w.heap.size + 1]? = some (.loop (rec .done (some c))) ∧ W.heap[w.heap.size]? = some (.deferred (some [])))
   W1 hk1 ?_ ?_ ?_ ⟨h0 _ hk1, hL1, hK1⟩).mono ?_
  ·rintro i V X Y ⟨h1, h2, h3⟩ hk
   exact ⟨hI i V X Y h1 (Bb h2) hk, (hk.same _ (Bb h2) trivial).trans h2, (hk.same _ (Bb h3) trivial).trans h3⟩
  ·rintro X Y ⟨c, h1, h2, h3⟩ hk
   exact ⟨c, hIx c X Y h1 hk, (hk.same _ (Bb h2) trivial).trans h2, (hk.same _ (Bb h3) trivial).trans h3⟩
  ·
   rintro i V W v hlen ⟨hi, hl, hk⟩ hE
   have hy := run_yield (P := P) (args := #[v]) hl (by rw [hrec]; exact hps.symm)
   rw [hrec] at hy
   have hVl := hV i V W hi
   refine ⟨fn, _, assign, body, hy, roundIn_of_wpIn hfn (wpIn_mono (hround i V W v _ hlen hi hE hl hk) ?_)⟩
   clear hy
   rintro e a' W2 hh
   cases e with
   | normal =>
    obtain ⟨hs, hgr, hb⟩ := hh
    have hl2 := (hs _ (.inr (.inl rfl))).trans hl
    have hk2 := (hs _ (.inl rfl)).trans hk
    refine ⟨_, run_beginRound hl2 (by rw [hrec]), ?_⟩
    refine wpIn_mono (hb _) ?_
    have hlt := Bb hl2
    have hl3 : (W2.putObj (w.heap.size + 1) (.loop { rec .ready none with state := .busy })).heap[w.heap.size + 1]? = some (.loop { rec .ready none with state := .busy }) := World.putObj_heap_same hlt
    have hk3 : (W2.putObj (w.heap.size + 1) (.loop { rec .ready none with state := .busy })).heap[w.heap.size]? = some (.deferred (some [])) := (World.putObj_heap_other (by omega)).trans hk2
    have fin : ∀ (jump : Option Code) (W3 : World), (∀ b, (b = w.heap.size ∨ b = w.heap.size + 1) → W3.heap[b]? = (W2.putObj (w.heap.size + 1) (.loop { rec .ready none with state := .busy })).heap[b]?) →
      (Instr.endRound (w.heap.size + 1) jump).run P W3 = .ok (.bool jump.isNone) (W3.putObj (w.heap.size + 1) (.loop (rec (if jump.isNone then .ready else .done) jump))) ∧
      W3.heap[w.heap.size + 1]? = some (.loop { rec .ready none with state := .busy }) ∧
      (W3.putObj (w.heap.size + 1) (.loop (rec (if jump.isNone then .ready else .done) jump))).heap[w.heap.size + 1]? = some (.loop (rec (if jump.isNone then .ready else .done) jump)) ∧
      (W3.putObj (w.heap.size + 1) (.loop (rec (if jump.isNone then .ready else .done) jump))).heap[w.heap.size]? = some (.deferred (some [])) := fun jump W3 hs3 => by
     have hl4 := (hs3 _ (.inr rfl)).trans hl3
     have := run_endRound (P := P) jump hl4
     rw [hrec] at this ⊢
     exact ⟨this, by rw [hrec] at hl4; exact hl4, World.putObj_heap_same (Bb hl4), (World.putObj_heap_other (by omega)).trans ((hs3 _ (.inl rfl)).trans hk3)⟩
    rintro e a3 W3 hp
    cases e with
    | normal =>
     obtain ⟨hs3, hg3, hi3⟩ := hp
     obtain ⟨hr, hl4, hl5, hk5⟩ := fin none W3 (fun b hb => hs3 b (hb.elim .inl fun h => .inr (.inl h)))
     refine ⟨_, _, hr, .inl ⟨rfl, ⟨hIr _ _ _ _ _ hi3 hl4, hl5, hk5⟩, hgr.trans ((Agm _ _ _).trans (hg3.trans (Agm _ _ _))), fun b hb => ?_⟩⟩
     have hne : b ≠ w.heap.size + 1 := fun e => hVl (e ▸ hb)
     exact (World.putObj_heap_other hne).trans ((hs3 b (.inr (.inr hb))).trans ((World.putObj_heap_other hne).trans (hs b (.inr (.inr hb)))))
    | ret =>
     obtain ⟨hs3, hg3, hi3⟩ := hp
     obtain ⟨hr, hl4, hl5, hk5⟩ := fin (some .ret) W3 hs3
     exact ⟨_, _, hr, .inr ⟨rfl, .ret, hIxr _ _ _ _ hi3 hl4, hl5, hk5⟩⟩
    | exit id =>
     obtain ⟨hs3, hg3, hi3⟩ := hp
     obtain ⟨hr, hl4, hl5, hk5⟩ := fin (some (.exit id)) W3 hs3
     exact ⟨_, _, hr, .inr ⟨rfl, .exit id, hIxr _ _ _ _ hi3 hl4, hl5, hk5⟩⟩
    | goto t => exact hp.elim
    | panic ch => exact hp.elim
    | outgrown => exact hp.elim
   | _ => exact hh.elim
  ·rintro e W2 ⟨⟨v, rfl⟩, (⟨V, hi, hl, hk⟩ | ⟨c, hi, hl, hk⟩)⟩
   ·exact ⟨none, _, by have := run_endLoop (P := P) hl (by rw [hrec]; simp); rw [hrec] at this; exact this, hdone _ _ (hIr _ _ _ _ _ hi hl) ((World.putObj_heap_other (by omega)).trans hk)⟩
   ·exact ⟨some c, _, by have := run_endLoop (P := P) hl (by rw [hrec]; simp); rw [hrec] at this; exact this, hstop c _ (hIxr _ _ _ _ hi hl) ((World.putObj_heap_other (by omega)).trans hk)⟩
variable {P : Program} {B : Reg} {w w' : World} {L L' : List MD} {s s' : S} {σs σs' : List Env} {σ σ' : Env} {Z : Fix} {A A' : Reg} {n : Nat}
theorem At8 {md : MD} {b : Nat} (h : md.Cv.holds (some b) w) : ∃ arr T fr, w.heap[b]? = some (.cells arr T fr) := by
 cases md with
 | dead =>
  obtain ⟨p, len, cap, h1, h2, h3, h4, h5, h6⟩ := h
  obtain ⟨arr, fr, e1, e2, _⟩ := h6 b rfl
  exact ⟨_, _, _, e2⟩
 | box b' c T => obtain ⟨h1, h2⟩ := h; cases h1; exact ⟨_, _, _, h2⟩
 | own z E v cs =>
  obtain ⟨p, len, cap, h1, h2, h3, h4, h5, h6⟩ := h
  obtain ⟨arr, fr, e1, e2, _⟩ := h6 b rfl
  exact ⟨_, _, _, e2⟩
theorem Agf : ∀ {L : List MD} {A : Reg}, Mobs w A (L.map MD.Cv) → ∃ O : Reg, (∀ b, O b → ¬ A b ∧ b < w.heap.size ∧ ∃ arr T fr, w.heap[b]? = some (.cells arr T fr)) ∧ Mobs w (fun b => ¬ O b) (L.map MD.Cv)
 | [], A, _ => ⟨fun _ => False, fun b h => h.elim, trivial⟩
 | md :: L, A, ⟨o, h1, h2, h3⟩ => by
  obtain ⟨O, g1, g2⟩ := Agf h3
  refine ⟨fun b => O b ∨ o = some b, fun b hb => ?_, o, h1, fun b hb => ⟨fun h => h (.inr hb), (h2 b hb).2⟩, g2.Ia fun b hb => ?_⟩
  ·rcases hb with hb | hb
   ·exact ⟨fun h => (g1 b hb).1 (.inl h), (g1 b hb).2⟩
   ·subst hb; exact ⟨(h2 b rfl).1, (h2 b rfl).2, At8 h1⟩
  ·rcases hb with hb | hb
   ·exact fun h => hb (.inl h)
   ·exact fun h => (g1 b h).1 (.inr hb)
theorem Rel.gr0 (hr : Rel Z s σs A L σ w) : Gr Z.w0 w := (hr.fact 1 (f := .old Z.M Z.w0) rfl).1
theorem Rel.old (hr : Rel Z s σs A L σ w) {b : Nat} (h1 : b < Z.w0.heap.size) (h2 : ¬ Z.M b) : A b ∧ w.heap[b]? = Z.w0.heap[b]? := (hr.fact 1 (f := .old Z.M Z.w0) rfl).2 b h1 h2
theorem Rel.mk3 {Z : Fix} (h1 : ∀ b, A b → b < w.heap.size) (h2 : MemR (fun b => A b ∧ Z.R b) w L s σs σ) (h3 : Gr Z.w0 w) (h4 : ∀ b, b < Z.w0.heap.size → ¬ Z.M b → A b ∧ w.heap[b]? = Z.w0.heap[b]?) (h5 : Mobs w A (L.map MD.Cv)) : Rel Z s σs A L σ w :=
by
 refine ⟨h1, fun f hf => ?_, h5⟩
 cases hf with
 | head => exact h2
 | tail _ hf =>
  cases hf with
  | head => exact ⟨h3, h4⟩
  | tail _ hf => cases hf
theorem Rel.grow (hr : Rel Z s σs A L σ w) (hk : KeepN (fun _ => True) w w') (h1 : ∀ b, A b → A' b) (h2 : ∀ b, A' b → A b ∨ (w.heap.size ≤ b ∧ b < w'.heap.size)) : Rel Z s σs A' L σ w' := by
 have same : ∀ b, b < w.heap.size → w'.heap[b]? = w.heap[b]? := fun b hb => hk.same b hb trivial
 refine Rel.mk3 (fun b hb => ?_) (hr.mem.step (fun b hb => ⟨h1 b hb.1, hb.2⟩) (fun b hb => same b (St.lt hr b hb.1))) (hr.gr0.trans hk.gr) (fun b hb hM => ?_) ?_
 ·rcases h2 b hb with h | h
  ·exact Nat.lt_of_lt_of_le (St.lt hr b h) hk.gr.le
  ·exact h.2
 ·obtain ⟨g1, g2⟩ := hr.old hb hM
  exact ⟨h1 b g1, (same b (St.lt hr b g1)).trans g2⟩
 ·exact ((St.mobs hr).lt.step hk.gr.le fun b hb _ => same b hb).Ia fun b hb => (h2 b hb).imp id And.left
theorem Rel.row (hr : Rel Z s σs A L σ w) {l : Nat} {o o' : Obj} (hA : ¬ A l) (hl : w.heap[l]? = some o) (ho : o.isCells = false) : Rel Z s σs A L σ (w.putObj l o') := by
 have hne : ∀ b, A b → b ≠ l := fun b hb e => hA (e ▸ hb)
 have hg := Agm w l o'
 have same : ∀ b, b ≠ l → (w.putObj l o').heap[b]? = w.heap[b]? := fun b hb => World.putObj_heap_other hb
 refine Rel.mk3 (fun b hb => Nat.lt_of_lt_of_le (St.lt hr b hb) hg.le) (hr.mem.step (fun b hb => hb) (fun b hb => same b (hne b hb.1))) (hr.gr0.trans hg) (fun b hb hM => ?_) ?_
 ·obtain ⟨g1, g2⟩ := hr.old hb hM
  exact ⟨g1, (same b (hne b g1)).trans g2⟩
 ·obtain ⟨O, g1, g2⟩ := Agf (St.mobs hr)
  refine (g2.step hg.le fun b hb hO => same b fun e => ?_).Ia fun b hb hO => (g1 b hO).1 hb
  subst e
  obtain ⟨_, _, arr, T, fr, e⟩ := g1 b (Classical.not_not.1 hO)
  rw [hl] at e; cases e; cases ho
structure Rows (Z : Fix) (A : Reg) (w : World) (X : Reg) : Prop where
 out : ∀ b, X b → ¬ A b
 new : ∀ b, X b → Z.w0.heap.size ≤ b
 row : ∀ b, X b → ∃ o, w.heap[b]? = some o ∧ o.isCells = false
def Fix.sub (Z : Fix) (hr : Rel Z s σs A L σ w) (X : Reg) (hX : Rows Z A w X) : Fix where
 R b := Z.R b ∧ ¬ X b
 M b := b < w.heap.size ∧ ¬ A b ∧ ¬ X b
 w0 := w
 new b hb := ⟨Z.new b (Nat.le_trans hr.gr0.le hb), fun h => by obtain ⟨o, ho, _⟩ := hX.row b h; have := Bb ho; omega⟩
 mod b hb := ⟨by
  rcases Nat.lt_or_ge b Z.w0.heap.size with h | h
  ·exact Z.mod b (Classical.byContradiction fun hM => hb.2.1 (hr.old h hM).1)
  ·exact Z.new b h, hb.2.2⟩
 gl := Z.gl
 glok p hp := by
  obtain ⟨⟨h1, h2⟩, T, fr, h3⟩ := hr.Arx hp
  exact ⟨⟨h2, fun h => hX.out _ h h1⟩, fun h => h.2.1 h1, Bb h3, T, fr, h3⟩
theorem Al4 (hr : Rel Z s σs A L σ w) {X : Reg} (hX : Rows Z A w X) : Rel (Z.sub hr X hX) s σs (fun b => A b ∨ X b) L σ w := by
 refine Rel.mk3 (fun b hb => ?_) (hr.mem.step (fun b hb => ⟨.inl hb.1, hb.2, fun h => hX.out b h hb.1⟩) (fun _ _ => rfl)) (.refl _) (fun b hb hM => ⟨?_, rfl⟩) ?_
 ·rcases hb with h | h
  ·exact St.lt hr b h
  ·obtain ⟨o, ho, _⟩ := hX.row b h; exact Bb ho
 ·exact Classical.byContradiction fun h => hM ⟨hb, fun g => h (.inl g), fun g => h (.inr g)⟩
 ·obtain ⟨O, g1, g2⟩ := Agf (St.mobs hr)
  refine g2.Ia fun b hb hO => ?_
  rcases hb with h | h
  ·exact (g1 b hO).1 h
  ·obtain ⟨o, ho, hc⟩ := hX.row b h
   obtain ⟨_, _, arr, T, fr, e⟩ := g1 b hO
   rw [ho] at e; cases e; cases hc
theorem Aer (hr : Rel Z s σs A L σ w) {X : Reg} (hX : Rows Z A w X) {L2 : List MD} {A2 : Reg} (h : Rel (Z.sub hr X hX) s' σs' A2 L2 σ' w') :
  Rel Z s' σs' (fun b => A2 b ∧ ¬ X b) L2 σ' w' ∧ (∀ b, A b → A2 b ∧ ¬ X b) ∧ (∀ b, (X b ∨ A b) → w'.heap[b]? = w.heap[b]?) ∧ Gr w w' := by
 have hold : ∀ b, (X b ∨ A b) → A2 b ∧ w'.heap[b]? = w.heap[b]? := fun b hb => by
  have hlt : b < w.heap.size := by
   rcases hb with h | h
   ·obtain ⟨o, ho, _⟩ := hX.row b h; exact Bb ho
   ·exact St.lt hr b h
  exact h.old (Z := Z.sub hr X hX) hlt fun hM => hb.elim hM.2.2 hM.2.1
 have hg : Gr w w' := h.gr0 (Z := Z.sub hr X hX)
 refine ⟨Rel.mk3 (fun b hb => St.lt h b hb.1) (h.mem.step (fun b hb => ⟨⟨hb.1, hb.2.2⟩, hb.2.1⟩) (fun _ _ => rfl)) (hr.gr0.trans hg) (fun b hb hM => ?_) ((St.mobs h).Ia fun b hb => hb.1),
  fun b hb => ⟨(hold b (.inr hb)).1, fun hx => hX.out b hx hb⟩, fun b hb => (hold b hb).2, hg⟩
 obtain ⟨g1, g2⟩ := hr.old hb hM
 obtain ⟨g3, g4⟩ := hold b (.inr g1)
 exact ⟨⟨g3, fun hx => by have := hX.new b hx; omega⟩, g4.trans g2⟩
def Adc : PV → Bool
 | .val _ _ => true
 | .agg l => go l
 | _ => false
where go : List PV → Bool
 | [] => true
 | a :: r => Adc a && go r
mutual
theorem Ams : ∀ {p : PV} {cs : List Value}, Adc p = true → EncC B w L p cs → EncC B w L' p cs
 | .val e x, cs, _, h => h
 | .agg l, cs, hv, h => Aja hv (show EncC.go B w L l cs from h)
 | .tup _, _, hv, _ => by cases hv
 | .nils, _, hv, _ => by cases hv
 | .own _, _, hv, _ => by cases hv
 | .ptr _ _, _, hv, _ => by cases hv
 | .view _ _ _ _ _ _, _, hv, _ => by cases hv
 | .rptr _, _, hv, _ => by cases hv
 | .fn _ _, _, hv, _ => by cases hv
 | .cst _, _, hv, _ => by cases hv
 | .any, _, hv, _ => by cases hv
 | .gd _ _ _, _, hv, _ => by cases hv
 | .off, _, hv, _ => by cases hv
 | .undef, _, hv, _ => by cases hv
theorem Aja : ∀ {l : List PV} {cs : List Value}, Adc.go l = true → EncC.go B w L l cs → EncC.go B w L' l cs
 | [], cs, _, h => h
 | a :: l, cs, hv, ⟨c1, c2, e, h1, h2⟩ => by
  simp only [Adc.go, Bool.and_eq_true] at hv
  exact ⟨c1, c2, e, Ams hv.1 h1, Aja hv.2 h2⟩
end
theorem Arq (hr : Rel Z s σs A L σ w) {i : Nat} {T : TypeId} {v : PV} (hi : Ay s.it i = .box T v) (hv : Adc v = true) :
  ∃ b cells A', L[i]? = some (.box b cells T) ∧ Rel Z ((s.Fv i .dead).sub i .any) σs A' (L.set i .dead) σ w ∧ A' b ∧ Z.R b ∧ w.heap[b]? = some (.cells cells.toArray T (0, 0)) ∧ EncC (fun b => A' b ∧ Z.R b) w [] v cells := by
 have hm := hr.mem
 obtain ⟨b, cells, h1, h2⟩ := hm.box hi
 obtain ⟨o, ho, h3, h4⟩ := (St.front hr (hr.Cv h1)).mobs
 obtain ⟨rfl, hb⟩ := ho
 have hR : Z.R b := by
  rcases Nat.lt_or_ge b Z.w0.heap.size with hlt | hge
  ·exact Z.mod b (Classical.byContradiction fun hM => (h3 b rfl).1 (hr.old hlt hM).1)
  ·exact Z.new b hge
 have hs : St (fun k => A k ∨ some b = some k) w [Ags Z.R L s σs σ, .old Z.M Z.w0] ((L.map MD.Cv).eraseIdx i) := by
  refine ⟨fun k hk => hk.elim (St.lt hr k) fun e => (h3 k e).2, fun f hf => f.step (St.facts hr f hf) (fun _ h => .inl h) (fun _ _ => rfl) (.refl _), h4⟩
 have hs2 := Mobs.Rt (hs.Akx 1 0) (Nr (m' := MD.dead.Cv) (hr.Cv h1))
 have hm2 : MemR (fun k => (A k ∨ some b = some k) ∧ Z.R k) w L s σs σ := hs2.fact 0 rfl
 have hf : Frz (fun k => (A k ∨ some b = some k) ∧ Z.R k) w L i .any := ⟨(fun z E' v' c' h => by rw [h1] at h; cases h), rfl, rfl⟩
 refine ⟨b, cells, fun k => A k ∨ some b = some k, h1, Rel.as hs2 (i := 1) rfl (hm2.subst hf) (by rw [List.map_set]), .inr rfl, hR, hb, Ams hv (EncC.step (fun b hb => ⟨.inl hb.1, hb.2⟩) (fun _ _ => rfl) (.refl L) h2)⟩
structure ItC where
 T : TypeId
 e : ET
 F : PV → Option (List e.T)
structure ItOk (P : Program) (gl : List (Nat × List Value)) (gf : Nat) (c : ItC) : Prop where
 ent : Ent P gf
 ok : ∀ (m : Nat) (B : Reg) (w : World) (b : Nat) (v : PV) (cells : List Value) (xs : List c.e.T), (∀ k, B k → k < w.heap.size) → B b → w.heap[b]? = some (.cells cells.toArray c.T (0, 0)) → EncC B w [] v cells → GlOk gl B w → c.F v = some xs →
  SeqD P m gf #[.pointer (some ⟨b, 0, none⟩)] xs.length (fun i V W v => ∀ x, xs[i]? = some x → EncV V W [] (.val c.e x) v) B w
def Aqt : Code → Bool
 | .rangeFunc _ _ _ _ => false
 | .seq a b => Aqt a && Aqt b
 | .cond _ a b => Aqt a && Aqt b
 | .block _ a => Aqt a
 | .loop a => Aqt a
 | .scope a => Aqt a
 | _ => true
def rnd {R α : Type} (an : An) (body : (S → Option R) → α → S → Option R) (kn : S → Option R) : List α → S → Option R
 | [], s => kn s
 | x :: xs, s => body (Oy an (rnd an body kn xs)) x s
def Aph {R : Type} (k : S → Option R) (s : S) : Option R := match s.st with | sl :: st => k ⟨sl, s.it, st⟩ | [] => none
def Ah : List (Nat × ItC) → Nat → Option ItC | [], _ => none | (g, c) :: r, f => Ba (Nat.beq g f) (some c) <| Ah r f
noncomputable def Yb {R : Type} (P : Program) (T : Tab) (inl : Inl R) (n : Nat) (p : Nat) (assign body : Code) (an : An) (k : K R) (e : ET) (kn : S → Option R) (x : e.T) (s : S) : Option R :=
 ex P T inl n assign an.r { n := fun s2 => ex P T inl n body an.l ⟨Aph kn, fun id => Aph (k.x id), Aph k.r⟩ s2, x := fun _ _ => none, r := fun _ => none } ⟨Auc s.sl p (.val e x), s.it, s.sl :: s.st⟩
noncomputable def Axk {R : Type} (P : Program) (T : Tab) (inl : Inl R) (n : Nat) (its : List (Nat × ItC)) (g : Operand) (ps : Array Tmp) (assign body : Code) (an : An) (k : K R) (s : S) : Option R :=
 match Bt s.sl g with
 | .fn gf caps => match caps with
  | [.ptr i []] => match ps.toList with
   | [p] => match Ay s.it i with
    | .box T' v => match Ah its gf with
     | some c => Ba (Nat.beq T' c.T && Adc v && Nat.blt p n) (Option.bind (c.F v) fun xs => Oy an (rnd an (Yb P T inl n p assign body an k c.e) k.n xs) ((s.Fv i .dead).sub i .any)) none
     | none => none
    | _ => none
   | _ => none
  | _ => none
 | _ => none
noncomputable def exF {R : Type} (P : Program) (T : Tab) (inl : Inl R) (n : Nat) (its : List (Nat × ItC)) : Code → An → K R → S → Option R
 | .seq a b, an, k, s => match Aqt a with
  | true => ex P T inl n a an.l { k with n := Aku an fun s' => exF P T inl n its b an.r k s' } s
  | false => exF P T inl n its a an.l { k with n := Aku an fun s' => ex P T inl n b an.r k s' } s
 | .block id a, an, k, s => exF P T inl n its a an.l { k with x := fun id' s' => Ba (Nat.beq id' id ) (k.n s' ) <| k.x id' s' } s
 | .rangeFunc g ps assign body, an, k, s => Axk P T inl n its g ps assign body an k s
 | c, an, k, s => ex P T inl n c an k s
def mark (D : Nat) : Deferred := { target := .collected D, args := #[] }
def At9 : Option Nat → List Deferred | none => [] | some D => [mark D]
def W2 (P : Program) (n : Nat) (c : Code) (Q : Exit → Env → World → Option Nat → Prop) (σ : Env) (w : World) : Prop :=
 ∀ (m : Nat) (a : Act), Fits [] n a σ → c.wpIn (wr none) m P (fun e a' w' => ∃ σ' D, Fits (At9 D) n a' σ' ∧ Q e σ' w' D) a w
variable {R : Type} {r : R} {T : Tab} {inl : Inl R}
def QK2 (Z : Fix) (σs : List Env) (k : K R) (r : R) (e : Exit) (σ' : Env) (w' : World) (D : Option Nat) : Prop :=
 ∃ s' A' L', kof k e s' = some r ∧ Rel Z s' σs A' L' σ' w' ∧ ∀ d, D = some d → w'.heap[d]? = some (.deferred (some [])) ∧ ¬ A' d ∧ Z.w0.heap.size ≤ d
def kx (k : K R) : Code → S → Option R | .ret => k.r | .exit id => k.x id | _ => fun _ => none
theorem Apw {f : Nat} {c : ItC} : ∀ {its : List (Nat × ItC)}, Ah its f = some c → (f, c) ∈ its
 | [], h => by simp [Ah] at h
 | (g, a) :: its, h => by
  simp only [Ah] at h
  cases hb : Nat.beq g f with
  | true => have := Az hb; subst this; rw [hb] at h; cases h; exact .head _
  | false => rw [hb] at h; exact .tail _ (Apw h)
theorem Ak2 {an : An} {k : S → Option R} (h : Oy an k s = some r) : ∃ lv co s', s.cn lv co = some s' ∧ k s' = some r := by
 unfold Oy at h
 split at h
 ·split at h
  ·rename_i s2 hs2; exact ⟨_, _, s2, hs2, h⟩
  ·cases h
 ·cases h
theorem Avd {its : List (Nat × ItC)} {g : Operand} {ps : Array Tmp} {assign body : Code} {an : An} {k : K R} (h : Axk P T inl n its g ps assign body an k s = some r) :
  ∃ gf i p v c xs, Bt s.sl g = .fn gf [.ptr i []] ∧ ps.toList = [p] ∧ Ay s.it i = .box c.T v ∧ Ah its gf = some c ∧ Adc v = true ∧ Nat.blt p n = true ∧ c.F v = some xs ∧
   Oy an (rnd an (Yb P T inl n p assign body an k c.e) k.n xs) ((s.Fv i .dead).sub i .any) = some r := by
 unfold Axk at h
 split at h
 ·rename_i gf caps hg
  split at h
  ·rename_i i
   split at h
   ·rename_i p hps
    split at h
    ·rename_i T' v hi
     split at h
     ·rename_i c hc
      obtain ⟨hcond, h'⟩ := Ag h
      simp only [Bool.and_eq_true] at hcond
      obtain ⟨⟨hT', hpl⟩, hpn⟩ := hcond
      obtain ⟨xs, hF, h2⟩ := Go.Lv.bind_some h'
      exact ⟨gf, i, p, v, c, xs, hg, hps, by rw [hi, Az hT'], hc, hpl, hpn, hF, h2⟩
     ·cases h
    ·cases h
   ·cases h
  ·cases h
 ·cases h
theorem Axd (hMix : P.follows .mixedOrders = true) (hT : Abc P T Z) (hI : Jl P T.gl inl) {its : List (Nat × ItC)} (hits : ∀ p ∈ its, ItOk P T.gl p.1 p.2) {g : Operand} {ps : Array Tmp} {assign body : Code} {an : An} {k : K R}
  (h : Axk P T inl n its g ps assign body an k s = some r) (hr : Rel Z s σs A L σ w) : W2 P n (.rangeFunc g ps assign body) (QK2 Z σs k r) σ w := by
 intro m a ha
 obtain ⟨gf, i, p, v, c, xs, hg, hps, hi, hc, hpl, hpn, hF, hrun⟩ := Avd h
 clear h
 have hit := hits _ (Apw hc)
 have hg1 := Ate (by rw [← hg]; exact Ey hr.mem.sl g (by rw [hg]; rfl))
 obtain ⟨us, hgv, v0, _, rfl, hp0, rfl⟩ := hg1
 obtain ⟨b, cells, A1, hLb, hr1, hA1b, hRb, hcell, henc⟩ := Arq hr hi hpl
 have hv0 : v0 = .pointer (some ⟨b, 0, none⟩) := by
  obtain ⟨md, b', e1, e2, e3⟩ := (show EncC (fun b => A b ∧ Z.R b) w L (.ptr i []) [v0] from hp0)
  rw [hLb] at e1; cases e1
  cases e2
  simpa [Ad] using e3
 subst hv0
 have hB1 : ∀ k, (A1 k ∧ Z.R k) → k < w.heap.size := fun k hk => St.lt hr1 k hk.1
 have hseq := hit.ok (m - 1) (fun k => A1 k ∧ Z.R k) w b v cells xs hB1 ⟨hA1b, hRb⟩ hcell henc
  (fun q hq => by rw [← hT.2] at hq; obtain ⟨g1, T1, fr, g2⟩ := hr1.Arx hq; exact ⟨Bb g2, g1, T1, fr, g2⟩) hF
 have hps' : ps = #[p] := by rw [← Array.toArray_toList (xs := ps), hps]
 subst hps'
 have hrow2 : ∀ (A : Reg) (W : World) (o o' : Obj), ¬ A w.heap.size → ¬ A (w.heap.size + 1) → W.heap[w.heap.size]? = some o → o.isCells = false → W.heap[w.heap.size + 1]? = some o' → o'.isCells = false → Rows Z A W (fun k => k = w.heap.size ∨ k = w.heap.size + 1) := fun A W o o' h1 h2 h3 h4 h5 h6 =>
  ⟨fun k hk => by rcases hk with rfl | rfl <;> assumption, fun k hk => by have := hr.gr0.le; rcases hk with rfl | rfl <;> omega, fun k hk => by rcases hk with rfl | rfl <;> exact ⟨_, by assumption, by assumption⟩⟩
 refine Aw0 (gf := gf) (lb := #[.pointer (some ⟨b, 0, none⟩)]) (by rw [ha.eval]; exact hgv) hit.ent hseq rfl
  (fun i V W => ∃ s A L, Oy an (rnd an (Yb P T inl n p assign body an k c.e) k.n (xs.drop i)) s = some r ∧ Rel Z s σs A L σ W ∧ (∀ b, V b → A b ∧ Z.R b) ∧ ¬ A w.heap.size ∧ ¬ A (w.heap.size + 1))
  (fun c W => ∃ s A L, kx k c s = some r ∧ Rel Z s σs A L σ W ∧ ¬ A w.heap.size ∧ ¬ A (w.heap.size + 1))
  ?hI ?hIx ?hIr ?hIxr ?hV ?h0 ?hround ?hdone ?hstop
 case hI =>
  rintro i V X Y ⟨s', A', L', h1, h2, h3, h4, h5⟩ hX hk
  refine ⟨s', fun b => A' b ∨ (X.heap.size ≤ b ∧ b < Y.heap.size), L', h1, h2.grow hk (fun _ h => .inl h) (fun _ h => h), fun b hb => ?_, ?_, ?_⟩
  ·rcases hb with h | h
   ·exact ⟨.inl (h3 b h).1, (h3 b h).2⟩
   ·exact ⟨.inr h, Z.new b (Nat.le_trans h2.gr0.le h.1)⟩
  ·rintro (h | h)
   ·exact h4 h
   ·omega
  ·rintro (h | h)
   ·exact h5 h
   ·omega
 case hIx =>
  rintro c X Y ⟨s', A', L', h1, h2, h3, h4⟩ hk
  exact ⟨s', A', L', h1, h2.grow hk (fun _ h => h) (fun _ h => .inl h), h3, h4⟩
 case hIr =>
  rintro i V X rr rr' ⟨s', A', L', h1, h2, h3, h4, h5⟩ hX
  exact ⟨s', A', L', h1, h2.row h5 hX rfl, h3, h4, h5⟩
 case hIxr =>
  rintro c X rr rr' ⟨s', A', L', h1, h2, h3, h4⟩ hX
  exact ⟨s', A', L', h1, h2.row h4 hX rfl, h3, h4⟩
 case hV =>
  rintro i V W ⟨s', A', L', h1, h2, h3, h4, h5⟩ hV
  exact h5 (h3 _ hV).1
 case h0 =>
  intro W hk
  refine ⟨_, A1, _, hrun, hr1.grow hk (fun _ h => h) (fun _ h => .inl h), fun b hb => hb, fun h => ?_, fun h => ?_⟩
  ·have := St.lt hr1 _ h; omega
  ·have := St.lt hr1 _ h; omega
 case hdone =>
  rintro V W ⟨s', A', L', h1, h2, h3, h4, h5⟩ hD
  rw [List.drop_length] at h1
  obtain ⟨lv, co, s2, hcn, h1⟩ := Ak2 h1
  have hX : Rows Z A' W (fun k => k = w.heap.size) := ⟨fun k hk => by subst hk; exact h4, fun k hk => by subst hk; exact hr.gr0.le, fun k hk => by subst hk; exact ⟨_, hD, rfl⟩⟩
  obtain ⟨A2, L2, hr2⟩ := Ahn (Al4 h2 hX) hcn
  obtain ⟨g1, g2, g3, g4⟩ := Aer h2 hX hr2
  exact ⟨σ, some w.heap.size, ⟨ha.size, by simp [At9, mark, ha.defers], ha.get⟩, s2, _, L2, h1, g1, fun d hd => by cases hd; exact ⟨hD, fun h => h.2 rfl, hr.gr0.le⟩⟩
 case hstop =>
  rintro c W ⟨s', A', L', h1, h2, h3, h4⟩ hD
  have key : ∀ e, kof k e s' = some r → ∃ σ' D, Fits (At9 D) n { a with defers := { target := .collected w.heap.size, args := #[] } :: a.defers } σ' ∧ QK2 Z σs k r e σ' W D := fun e he =>
   ⟨σ, some w.heap.size, ⟨ha.size, by simp [At9, mark, ha.defers], ha.get⟩, s', A', L', he, h2, fun d hd => by cases hd; exact ⟨hD, h3, hr.gr0.le⟩⟩
  cases c <;> first
   | exact wpIn_ret (key .ret h1)
   | exact wpIn_exit (key (.exit _) h1)
   | cases h1
 case hround =>
  rintro i V W v rr hi ⟨s', A', L', h1, h2, h3, h4, h5⟩ hE hl hD
  have hX := hrow2 A' W _ _ h4 h5 hD rfl hl rfl
  have hin := Al4 h2 hX
  obtain ⟨lv, co, s2, hcn, h1⟩ := Ak2 h1
  obtain ⟨A2, L2, hr2⟩ := Ahn hin hcn
  obtain ⟨x, hx⟩ : ∃ x, xs[i]? = some x := ⟨_, List.getElem?_eq_getElem hi⟩
  have hdrop : xs.drop i = x :: xs.drop (i + 1) := by rw [List.drop_eq_getElem_cons hi]; congr 1; rw [List.getElem?_eq_getElem hi] at hx; exact Option.some.inj hx
  rw [hdrop] at h1
  have h1' : Yb P T inl n p assign body an k c.e (Oy an (rnd an (Yb P T inl n p assign body an k c.e) k.n (xs.drop (i + 1)))) x s2 = some r := h1
  unfold Yb at h1'
  have hlt := Bb hl
  have hA2 : ∀ b, A' b → A2 b := fun b hb => (hr2.old (Z := Z.sub h2 _ hX) (St.lt h2 b hb) (fun hM => hM.2.1 hb)).1
  have hval : Bo (fun b => A2 b ∧ (Z.sub h2 _ hX).R b) W L2 (.val c.e x) v := by
   refine (Cz (EncV.step (B := V) (w := W) (L := []) (fun b hb => ⟨hA2 b (h3 b hb).1, (h3 b hb).2, fun h => ?_⟩) (fun b hb => rfl) (by have := Vq.append [] L2; rwa [List.nil_append] at this) (hE x hx))).2
   rcases h with rfl | rfl
   ·exact h4 (h3 _ hb).1
   ·exact h5 (h3 _ hb).1
  have hr3 : Rel (Z.sub h2 _ hX) ⟨Auc s2.sl p (.val c.e x), s2.it, s2.sl :: s2.st⟩ (σ :: σs) A2 L2 (Fv σ p v) W :=
   Rel.as hr2 (i := 1) rfl ⟨hr2.mem.it, hr2.mem.sl.set (Cl.put rfl hval), hr2.mem.sl, hr2.mem.stk⟩ rfl
  have hfit : Fits [] n ({ tmps := ((#[p] : Array Tmp).zip #[v]).foldl (fun t (p, v) => t.setIfInBounds p v) a.tmps, defers := [] } : Act) (Fv σ p v) := by
   have hp := ha.put hpn v
   exact ⟨by simpa [Act.put] using hp.size, rfl, by simpa [Act.put] using hp.get⟩
  refine wpIn_mono (Ahd (Z := Z.sub h2 _ hX) hMix ⟨hT.1, hT.2⟩ hI assign h1' hr3 (some (w.heap.size + 1)) (m - 1 - 1) [] _ hfit) ?_
  rintro e a2 W2 ⟨σ2, hf2, s3, A3, L3, hk3, hr3'⟩
  cases e with
  | normal =>
   have hk3' : ex P T inl n body an.l ⟨Aph (Oy an (rnd an (Yb P T inl n p assign body an k c.e) k.n (xs.drop (i + 1)))), fun id => Aph (k.x id), Aph k.r⟩ s3 = some r := hk3
   obtain ⟨g1, g2, g3, g4⟩ := Aer h2 hX hr3'
   refine ⟨fun b hb => g3 b (by rcases hb with h | h | h; exact .inl (.inl h); exact .inl (.inr h); exact .inr (h3 b h).1), g4, fun r' => ?_⟩
   have hl2 : W2.heap[w.heap.size + 1]? = some (.loop rr) := (g3 _ (.inl (.inr rfl))).trans hl
   have hD2 : W2.heap[w.heap.size]? = some (.deferred (some [])) := (g3 _ (.inl (.inl rfl))).trans hD
   have hnl : ¬ (A3 (w.heap.size + 1) ∧ ¬ (w.heap.size + 1 = w.heap.size ∨ w.heap.size + 1 = w.heap.size + 1)) := fun h => h.2 (.inr rfl)
   have hnD : ¬ (A3 w.heap.size ∧ ¬ (w.heap.size = w.heap.size ∨ w.heap.size = w.heap.size + 1)) := fun h => h.2 (.inl rfl)
   have hr4 := Rel.row (o' := .loop r') g1 hnl hl2 rfl
   have hl3 : (W2.putObj (w.heap.size + 1) (.loop r')).heap[w.heap.size + 1]? = some (.loop r') := World.putObj_heap_same (Bb hl2)
   have hD3 : (W2.putObj (w.heap.size + 1) (.loop r')).heap[w.heap.size]? = some (.deferred (some [])) := (World.putObj_heap_other (by omega)).trans hD2
   have hX3 := hrow2 (fun b => A3 b ∧ ¬ (b = w.heap.size ∨ b = w.heap.size + 1)) _ _ _ hnD hnl hD3 rfl hl3 rfl
   refine wpIn_mono (Ahd (Z := Z.sub hr4 _ hX3) hMix ⟨hT.1, hT.2⟩ hI body hk3' (Al4 hr4 hX3) (some (w.heap.size + 1)) (m - 1 - 1) [] a2 hf2) ?_
   rintro e a5 W5 ⟨σ5, hf5, s5, A5, L5, hk5, hr5⟩
   have pop : ∀ (kk : S → Option R), Aph kk s5 = some r → ∃ s6 A6, kk s6 = some r ∧ Rel Z s6 σs A6 L5 σ W5 ∧ (∀ b, A3 b ∧ ¬ (b = w.heap.size ∨ b = w.heap.size + 1) → A6 b) ∧ ¬ A6 w.heap.size ∧ ¬ A6 (w.heap.size + 1) := by
    intro kk hkk
    unfold Aph at hkk
    split at hkk
    ·rename_i sl st hst
     have hstk := hr5.mem.stk
     rw [hst] at hstk
     have hr6 : Rel (Z.sub hr4 _ hX3) ⟨sl, s5.it, st⟩ σs A5 L5 σ W5 := Rel.as hr5 (i := 1) rfl ⟨hr5.mem.it, hstk.1, hstk.2⟩ rfl
     obtain ⟨q1, q2, q3, q4⟩ := Aer hr4 hX3 hr6
     exact ⟨_, _, hkk, q1, q2, fun h => h.2 (.inl rfl), fun h => h.2 (.inr rfl)⟩
    ·cases hkk
   obtain ⟨_, _, q3, q4⟩ := Aer hr4 hX3 hr5
   cases e with
   | normal =>
    obtain ⟨s6, A6, p1, p2, p3, p4, p5⟩ := pop _ hk5
    refine ⟨fun b hb => q3 b ?_, q4, s6, A6, L5, p1, p2, fun b hb => ⟨p3 b (g2 b (h3 b hb).1), (h3 b hb).2⟩, p4, p5⟩
    rcases hb with h | h | h
    ·exact .inl (.inl h)
    ·exact .inl (.inr h)
    ·exact .inr (g2 b (h3 b h).1)
   | ret =>
    obtain ⟨s6, A6, p1, p2, p3, p4, p5⟩ := pop _ hk5
    exact ⟨fun b hb => q3 b (.inl hb), q4, s6, A6, L5, p1, p2, p4, p5⟩
   | exit id =>
    obtain ⟨s6, A6, p1, p2, p3, p4, p5⟩ := pop _ hk5
    exact ⟨fun b hb => q3 b (.inl hb), q4, s6, A6, L5, p1, p2, p4, p5⟩
   | goto t => cases hk5
   | panic ch => cases hk5
   | outgrown => cases hk5
  | ret => cases hk3
  | exit id => cases hk3
  | goto t => cases hk3
  | panic ch => cases hk3
  | outgrown => cases hk3
theorem QK2.exit {e : Exit} {k k' : K R} {σ' : Env} {w' : World} {D : Option Nat} (h : QK2 Z σs k r e σ' w' D) (he : ∀ s, kof k e s = some r → kof k' e s = some r) : QK2 Z σs k' r e σ' w' D := by
 obtain ⟨s', A', L', h1, h2⟩ := h; exact ⟨s', A', L', he _ h1, h2⟩
theorem Az6 (hMix : P.follows .mixedOrders = true) (hT : Abc P T Z) (hI : Jl P T.gl inl) {its : List (Nat × ItC)} (hits : ∀ p ∈ its, ItOk P T.gl p.1 p.2) : ∀ (c : Code) {an : An} {k : K R} {s : S} {A : Reg} {L : List MD} {σ : Env} {w : World},
  exF P T inl n its c an k s = some r → Rel Z s σs A L σ w → W2 P n c (QK2 Z σs k r) σ w := by
 have dflt : ∀ (c : Code) {an : An} {k : K R} {s : S} {A : Reg} {L : List MD} {σ : Env} {w : World}, ex P T inl n c an k s = some r → Rel Z s σs A L σ w → W2 P n c (QK2 Z σs k r) σ w := by
  intro c an k s A L σ w h hr m a ha
  refine wpIn_mono (Ahd hMix hT hI c h hr none m [] a ha) ?_
  rintro e a' w' ⟨σ', hf, s', A', L', h1, h2⟩
  exact ⟨σ', none, hf, s', A', L', h1, h2, fun d hd => by cases hd⟩
 intro c
 induction c with
 | seq a b iha ihb =>
  intro an k s A L σ w h hr m act ha
  simp only [exF] at h
  split at h
  ·refine wpIn_seq (wpIn_mono (Ahd hMix hT hI a h hr none m [] act ha) ?_)
   rintro e a' w' ⟨σ', hf, s', A', L', h1, hr'⟩
   cases e with
   | normal =>
    have h2 : Aku an (fun s' => exF P T inl n its b an.r k s') s' = some r := h1
    unfold Aku at h2
    split at h2
    ·split at h2
     ·rename_i s2 hs2
      obtain ⟨A2, L2, hr2⟩ := Ahn hr' hs2
      exact ihb h2 hr2 m a' hf
     ·cases h2
    ·exact ihb h2 hr' m a' hf
   | _ => exact ⟨σ', none, hf, s', A', L', h1, hr', fun d hd => by cases hd⟩
  ·refine wpIn_seq (wpIn_mono (iha h hr m act ha) ?_)
   rintro e a' w' ⟨σ', D, hf, s', A', L', h1, hr', hD⟩
   cases e with
   | normal =>
    have h2 : Aku an (fun s' => ex P T inl n b an.r k s') s' = some r := h1
    have hX : Rows Z A' w' (fun k => D = some k) := ⟨fun k hk => (hD k hk).2.1, fun k hk => (hD k hk).2.2, fun k hk => ⟨_, (hD k hk).1, rfl⟩⟩
    have fin : ∀ {s2 : S} {A2 : Reg} {L2 : List MD}, ex P T inl n b an.r k s2 = some r → Rel (Z.sub hr' _ hX) s2 σs A2 L2 σ' w' → b.wpIn (wr none) m P (fun e a' w' => ∃ σ' D, Fits (At9 D) n a' σ' ∧ QK2 Z σs k r e σ' w' D) a' w' := by
     intro s2 A2 L2 h3 hr2
     refine wpIn_mono (Ahd (Z := Z.sub hr' _ hX) hMix ⟨hT.1, hT.2⟩ hI b h3 hr2 none m (At9 D) a' hf) ?_
     rintro e a'' w'' ⟨σ'', hf', s3, A3, L3, h4, hr3⟩
     obtain ⟨g1, g2, g3, g4⟩ := Aer hr' hX hr3
     exact ⟨σ'', D, hf', s3, _, L3, h4, g1, fun d hd => ⟨(g3 d (.inl hd)).trans (hD d hd).1, fun h => h.2 hd, (hD d hd).2.2⟩⟩
    unfold Aku at h2
    split at h2
    ·split at h2
     ·rename_i s2 hs2
      obtain ⟨A2, L2, hr2⟩ := Ahn (Al4 hr' hX) hs2
      exact fin h2 hr2
     ·cases h2
    ·exact fin h2 (Al4 hr' hX)
   | _ => exact ⟨σ', D, hf, s', A', L', h1, hr', hD⟩
 | block id a iha =>
  intro an k s A L σ w h hr m act ha
  refine wpIn_block (wpIn_mono (iha (an := an.l) (k := { k with x := fun id' s' => Ba (Nat.beq id' id ) (k.n s' ) <| k.x id' s' }) h hr m act ha) ?_)
  rintro e a' w' ⟨σ', D, hf, hq⟩
  cases e with
  | exit id' =>
   simp only [Exit.inBlock]
   obtain ⟨s', A', L', h1, hr'⟩ := hq
   have h2 : (Ba (Nat.beq id' id ) (k.n s' ) <| k.x id' s') = some r := h1
   by_cases hid : id' = id
   ·rw [if_pos hid]
    subst hid
    simp at h2
    exact ⟨σ', D, hf, s', A', L', h2, hr'⟩
   ·rw [if_neg hid]
    have hb : Nat.beq id' id = false := by
     cases hb : Nat.beq id' id with
     | false => rfl
     | true => exact absurd (Az hb) hid
    rw [hb] at h2
    exact ⟨σ', D, hf, s', A', L', h2, hr'⟩
  | _ => exact ⟨σ', D, hf, hq⟩
 | rangeFunc g ps assign body _ _ => intro an k s A L σ w h hr; exact Axd hMix hT hI hits h hr
 | _ => intro an k s A L σ w h hr; exact dflt _ (by simpa only [exF] using h) hr
theorem Akk {fn : Func} {vs : List Value} (hle : Nat.ble vs.length fn.ntmps = true) : Fits [] fn.ntmps { tmps := vs.toArray ++ Array.replicate (fn.ntmps - vs.toArray.size) undef, defers := [] } (Ab8 vs) := by
 have hle' : vs.length ≤ fn.ntmps := by simpa using hle
 refine ⟨by simp; omega, rfl, fun t => ?_⟩
 simp only [Ab8, Array.getD_eq_getD_getElem?, List.getD_eq_getElem?_getD, Array.getElem?_append, List.size_toArray, List.getElem?_toArray]
 by_cases ht : t < vs.length
 ·simp [ht]
 ·rw [if_neg ht, List.getElem?_eq_none (by omega)]
  by_cases h2 : t - vs.length < fn.ntmps - vs.length
  ·simp [Array.getElem?_replicate, h2]
  ·simp [Array.getElem?_replicate, h2]
noncomputable def Axb (P : Program) (T : Tab) (ans : List (Nat × An)) (its : List (Nat × ItC)) (f : Func) (an : An) (ps rs : List Sh) (x : LTy (shL ps)) : Option (LTy (shL rs)) :=
 match f.body, args ps x with
 | some c, some vs => exF P T (Jp P T 8 ans) f.ntmps its c an { n := Abd P rs f.results.toList, x := fun _ _ => none, r := Abd P rs f.results.toList } ⟨Hi 0 vs, argI ps x, []⟩
 | _, _ => none
theorem Aqn (hMix : P.follows .mixedOrders = true) {f : Nat} {fn : Func} {ans : List (Nat × An)} {its : List (Nat × ItC)} {an : An} {ps rs : List Sh} {F : LTy (shL ps) → Option (LTy (shL rs))} (hf : P.funcs[f]? = some fn) (hE : Ent P f) (hT : Jj P T) (hA : ∀ p ∈ ans, Ent P p.1)
  (hits : ∀ p ∈ its, ItOk P T.gl p.1 p.2) (hle : Nat.ble ps.length fn.ntmps = true) (h : ∀ x, Axb P T ans its fn an ps rs x = F x) : ConOk P T.gl f ⟨ps, rs, F⟩ := by
 cases hc : fn.body with
 | none =>
  refine Lp (RUN := fun _ => none) (fn := fn) hE (fun x y pvs hx hy => ?_) (fun _ _ _ _ _ _ _ _ _ _ _ h => by cases h)
  rw [← h x] at hy
  unfold Axb at hy
  rw [hc] at hy
  exact hy
 | some c =>
  refine Lp (T := T) (fn := fn) (RUN := exF P T (Jp P T 8 ans) fn.ntmps its c an { n := Abd P rs fn.results.toList, x := fun _ _ => none, r := Abd P rs fn.results.toList }) hE (fun x y pvs hx hy => ?_) ?_
  ·rw [← h x] at hy
   unfold Axb at hy
   rw [hc, hx] at hy
   exact hy
  ·intro Z A L w s y vs Q hZ hr hl hy fin
   refine (callsIn_wide (n := 4)).1 (callsIn_of_wp_marks hf hc trivial (wpIn_mono (Az6 hMix ⟨hT, hZ⟩ (Ae5 hMix hT hA 8) hits c hy hr 4 _ (Akk (by rw [hl]; exact hle))) ?_) rfl)
   rintro e a' w' ⟨σ', D, hf', s', A', L', h1, hr', hD⟩
   have key : Abd P rs fn.results.toList s' = some y → LeavesInM (wr none) 4 P fn a'.tmps Q a'.defers .returning w' := by
    intro h1
    rw [hf'.defers]
    cases D with
    | none =>
     obtain ⟨us, h2, h3⟩ := fin s' A' L' σ' w' h1 hr'
     exact ⟨_, Pp (by simp) hf' h2, h3⟩
    | some d =>
     obtain ⟨g1, g2, g3⟩ := hD d rfl
     obtain ⟨us, h2, h3⟩ := fin s' A' L' σ' _ h1 (hr'.row (o' := .deferred none) g2 g1 rfl)
     exact ⟨by simp, .inl ⟨d, _, rfl, run_takeDeferred g1, _, Pp (by simp) hf' h2, h3⟩⟩
   cases e with
   | normal => exact key h1
   | ret => exact key h1
   | exit id => cases h1
   | goto l => cases h1
   | panic c => cases h1
   | outgrown => cases h1
end Go.Rx
set_option linter.unusedVariables false
set_option linter.unusedSimpArgs false
namespace Go.Rx
open Go Go.Lv Go.RowKit
variable {P : Program} {B : Reg} {w w' : World} {L L' : List MD} {s s' : S} {σs σs' : List Env} {σ σ' : Env} {Z : Fix} {A A' : Reg} {n : Nat}
variable {R : Type} {r : R} {T : Tab}
def Ac1 : Exit → Option Nat | .normal => some 0 | .exit id => some (id + 2) | .ret => some 1 | _ => none
structure MemI (gl : List (Nat × List Value)) (V : Reg) (w : World) (s : S) (σ : Env) : Prop where
 lt : ∀ b, V b → b < w.heap.size
 it : s.it = []
 st : s.st = []
 sl : SlotsR V w [] σ s.sl
 gl : GlOk gl V w
theorem GlOk.keep {gl : List (Nat × List Value)} {V V' : Reg} (h : GlOk gl V w) (hV : ∀ b, V b → V' b) (hs : Same V w w') (hg : Gr w w') : GlOk gl V' w' := fun p hp =>
 let ⟨h1, h2, T, fr, h3⟩ := h p hp
 ⟨Nat.lt_of_lt_of_le h1 hg.le, hV _ h2, T, fr, (hs _ h2).trans h3⟩
theorem MemI.keep {gl : List (Nat × List Value)} {V V' : Reg} (h : MemI gl V w s σ) (hV : ∀ b, V b → V' b) (hl : ∀ b, V' b → b < w'.heap.size) (hs : Same V w w') (hg : Gr w w') : MemI gl V' w' s σ :=
 ⟨hl, h.it, h.st, h.sl.step hV hs (.refl []), h.gl.keep hV hs hg⟩
theorem MemI.Apu {gl : List (Nat × List Value)} {V : Reg} (h : MemI gl V w s σ) {sl : Slots} (hs : ∀ p ∈ sl, p ∈ s.sl) : MemI gl V w ⟨sl, [], []⟩ σ :=
 ⟨h.lt, rfl, rfl, fun p hp => h.sl p (hs p hp), h.gl⟩
def Aua (gl : List (Nat × List Value)) (V : Reg) (w : World) (h : GlOk gl V w) : Fix where
 R b := V b ∨ w.heap.size ≤ b
 M _ := False
 w0 := w
 new _ hb := .inr hb
 mod _ h := h.elim
 gl := gl
 glok p hp := let ⟨h1, h2, h3⟩ := h p hp; ⟨.inl h2, id, h1, h3⟩
theorem MemI.rel {gl : List (Nat × List Value)} {V : Reg} (h : MemI gl V w s σ) : Rel (Aua gl V w h.gl) s [] (fun b => b < w.heap.size) [] σ w := by
 refine Rel.mk3 (fun b hb => hb) ⟨⟨by rw [h.it]; rfl, fun i a m h1 => by rw [h.it] at h1; simp at h1⟩, h.sl.step (fun b hb => ⟨h.lt b hb, .inl hb⟩) (fun _ _ => rfl) (.refl []), ?_⟩ (.refl _) (fun b hb _ => ⟨hb, rfl⟩) trivial
 rw [h.st]; trivial
def grown (V : Reg) (w w' : World) : Reg := fun b => V b ∨ (w.heap.size ≤ b ∧ b < w'.heap.size)
theorem MemI.back {gl : List (Nat × List Value)} {V : Reg} (h : MemI gl V w s σ) {A' : Reg} {L' : List MD} (hr : Rel (Aua gl V w h.gl) s' [] A' L' σ' w') (h1 : s'.it = []) :
  KeepN (fun _ => True) w w' ∧ MemI gl (grown V w w') w' s' σ' := by
 have hk : KeepN (fun _ => True) w w' := ⟨fun b hb _ => (hr.old (Z := Aua gl V w h.gl) hb id).2, hr.gr0 (Z := Aua gl V w h.gl)⟩
 have hL : L' = [] := by
  have := hr.mem.it.1
  rw [h1] at this
  exact List.eq_nil_of_length_eq_zero this.symm
 subst hL
 refine ⟨hk, fun b hb => hb.elim (fun h' => Nat.lt_of_lt_of_le (h.lt b h') hk.gr.le) And.right, h1, ?_, hr.mem.sl.step (fun b hb => hb.2.elim .inl fun h => .inr ⟨h, St.lt hr b hb.1⟩) (fun _ _ => rfl) (.refl []), ?_⟩
 ·have := hr.mem.stk
  cases hst : s'.st with
  | nil => rfl
  | cons a l => rw [hst] at this; exact this.elim
 ·exact h.gl.keep (fun b hb => .inl hb) (fun b hb => hk.same b (h.lt b hb) trivial) hk.gr
theorem Avu {m : Nat} {o : Oper} {a : Act} {next next' : Act → World → Prop} {Y : Act → World → Prop} {Q : Exit → Act → World → Prop} {x : Result Next} (hn : ∀ a w, next a w → next' a w)
  (h : o.uponIn (wr none) m P a next (Nrm Y) x) : o.uponIn (wr none) m P a next' Q x := by
 cases x with
 | ok x w' =>
  cases x with
  | value v => exact hn _ _ h
  | skip => exact hn _ _ h
  | defer d => exact hn _ _ h
  | enter f args =>
   refine ⟨h.1, h.2.mono ?_⟩
   intro e w'' hh
   cases e with
   | returned v => exact hn _ _ hh
   | panicked c => exact absurd hh.1 (by simp)
   | outgrown => exact (Ans hh).elim
  | row row args => exact ⟨h.1, h.2.mono fun v w'' hh => hn _ _ hh⟩
  | round l f t b c =>
   refine ⟨h.1, h.2.mono ?_⟩
   intro e w'' hh
   cases e with
   | returned v => exact hn _ _ hh
   | panicked c => exact absurd hh.1 (by simp)
   | outgrown => exact (Ans hh).elim
  | _ => exact h.elim
 | halt x w' =>
  cases x with
  | panic v => exact absurd h.1 (by simp)
  | _ => exact h.elim
theorem Sy {m : Nat} {ops : Array Oper} {Y : Act → World → Prop} {Q : Exit → Act → World → Prop} {l2 : List Oper} (h2 : ∀ a w, Y a w → wpListIn (wr none) m P ops Q l2 a w) : ∀ {l1 : List Oper} {a : Act} {w : World},
  wpListIn (wr none) m P ops (Nrm Y) l1 a w → wpListIn (wr none) m P ops Q (l1 ++ l2) a w
 | [], a, w, h => h2 a w h.2
 | o :: l1, a, w, h => by
  simp only [wpListIn, List.cons_append] at h ⊢
  split
  ·rename_i hw
   rw [if_pos hw] at h
   exact ⟨h.1, Avu (fun a w h => Sy h2 h) h.2⟩
  ·rename_i hw
   rw [if_neg hw] at h
   exact ⟨h.1, Sy h2 h.2⟩
theorem Avw {m : Nat} {ops : Array Oper} {Q : Exit → Act → World → Prop} {rest : List Oper} {o : Oper} {d : Nat} (hg : o.guard = none) (hd : o.dst = some d) (hdn : Nat.blt d n = true) (hne : ∀ c, o.op ≠ .defer c) {l : Nat} {v : Value}
  (hx : (execOp (ev σ) o).run P w = (Instr.yield l #[v]).run P w) {RR : Ending → World → Prop} (hy : YieldAt (wr none) (m - 1) P l #[v] w RR)
  (hR : ∀ e w', RR e w' → ∃ u, e = .returned u ∧ ∀ a', Fits [] n a' (Fv σ d u) → wpListIn (wr none) m P ops Q rest a' w') {a : Act} (ha : Fits [] n a σ) : wpListIn (wr none) m P ops Q (o :: rest) a w := by
 obtain ⟨fn, tmps, assign, body, hy1, hr⟩ := hy
 simp only [wpListIn]
 have hw : Region.wanted o (yielded ops a.tmps) = true := by simp only [Region.wanted, hg]
 rw [if_pos hw]
 refine ⟨fun _ _ => trivial, ?_⟩
 rw [Oper.semAt_eq _ _ _ hne, ha.eval, hx, hy1]
 refine ⟨(fun h => by simp [wr, Fence.wide] at h), hr.mono ?_⟩
 intro e w' he
 obtain ⟨u, rfl, h⟩ := hR e w' he
 exact h _ (by rw [hd]; exact ha.put hdn u)
def cnP (lv : List Nat) (co : List At) (q : Nat) (s : S) : Option (Nat × S) := match s.cn lv co with | some s' => some (q, s') | none => none
def kC (lv : List Nat) (co : List At) : K (Nat × S) := ⟨cnP lv co 0, fun id => cnP lv co (id + 2), cnP lv co 1⟩
theorem Ae3 {lv : List Nat} {co : List At} {q q' : Nat} (h : cnP lv co q s = some (q', s')) : q' = q ∧ s.cn lv co = some s' := by
 unfold cnP at h
 split at h
 ·rename_i s2 hs; cases h; exact ⟨rfl, hs⟩
 ·cases h
theorem Aa6 {inl : Inl (Nat × S)} (hMix : P.follows .mixedOrders = true) (hT : Jj P T) (hI : Jl P T.gl inl) {J : Reg → World → Prop} (hJ : ∀ V X Y, J V X → KeepN (fun _ => True) X Y → J (grown V X Y) Y)
  {c : Code} {an : An} {lv : List Nat} {co : List At} {q : Nat} (h : ex P T inl n c an (kC lv co) s = some (q, s')) (h1 : s'.it = []) {V : Reg} (hm : MemI T.gl V w s σ) (hj : J V w) {m : Nat} {a : Act} (ha : Fits [] n a σ) :
  c.wpIn (wr none) m P (fun e a' w' => Ac1 e = some q ∧ ∃ σ' V', Fits [] n a' σ' ∧ J V' w' ∧ MemI T.gl V' w' s' σ') a w := by
 refine wpIn_mono (Ahd (Z := Aua T.gl V w hm.gl) hMix ⟨hT, rfl⟩ hI c h hm.rel none m [] a ha) ?_
 rintro e a' w' ⟨σ', hf, s2, A', L', h2, hr⟩
 have key : Ac1 e = some q ∧ s2.cn lv co = some s' := by
  cases e with
  | normal => obtain ⟨rfl, h3⟩ := Ae3 h2; exact ⟨rfl, h3⟩
  | ret => obtain ⟨rfl, h3⟩ := Ae3 h2; exact ⟨rfl, h3⟩
  | exit id => obtain ⟨rfl, h3⟩ := Ae3 h2; exact ⟨rfl, h3⟩
  | goto l => cases h2
  | panic c => cases h2
  | outgrown => cases h2
 obtain ⟨h3, h4⟩ := key
 obtain ⟨A2, L2, hr2⟩ := Ahn hr h4
 obtain ⟨g1, g2⟩ := hm.back hr2 h1
 exact ⟨h3, σ', _, hf, hJ _ _ _ hj g1, g2⟩
theorem Ady {inl : Inl (Nat × S)} (hMix : P.follows .mixedOrders = true) (hT : Jj P T) (hI : Jl P T.gl inl) {J : Reg → World → Prop} (hJ : ∀ V X Y, J V X → KeepN (fun _ => True) X Y → J (grown V X Y) Y)
  {c d : Code} (an : An) (lv : List Nat) (co : List At) (h : ex P T inl n c an (kC lv co) s = some (0, s')) (h1 : s'.it = []) {V : Reg} (hm : MemI T.gl V w s σ) (hj : J V w) {m : Nat} {a : Act} (ha : Fits [] n a σ) {Q : Exit → Act → World → Prop}
  (hk : ∀ σ' V' w' a', Fits [] n a' σ' → J V' w' → MemI T.gl V' w' s' σ' → d.wpIn (wr none) m P Q a' w') : (Code.seq c d).wpIn (wr none) m P Q a w := by
 refine wpIn_seq (wpIn_mono (Aa6 hMix hT hI hJ h h1 hm hj ha) ?_)
 rintro e a' w' ⟨he, σ', V', h2, h3, h4⟩
 cases e with
 | normal => exact hk σ' V' w' a' h2 h3 h4
 | ret => simp [Ac1] at he
 | exit id => simp [Ac1] at he
 | goto l => cases he
 | panic c => cases he
 | outgrown => cases he
theorem Aos {inl : Inl (Nat × S)} (hT : Jj P T) (hI : Jl P T.gl inl) {J : Reg → World → Prop} (hJ : ∀ V X Y, J V X → KeepN (fun _ => True) X Y → J (grown V X Y) Y) {ops : Array Oper} {l l2 : List Oper} (lv : List Nat) (hd : Abe l = true)
  (h : Ab5 P T inl n ops l s (cnP lv [] 0) = some (0, s')) (h1 : s'.it = []) {V : Reg} (hm : MemI T.gl V w s σ) (hj : J V w) {m : Nat} {a : Act} (ha : Fits [] n a σ) {Q : Exit → Act → World → Prop}
  (hk : ∀ σ' V' w' a', Fits [] n a' σ' → J V' w' → MemI T.gl V' w' s' σ' → wpListIn (wr none) m P ops Q l2 a' w') : wpListIn (wr none) m P ops Q (l ++ l2) a w := by
 have h2 := Ajd (Z := Aua T.gl V w hm.gl) (ops := ops) ⟨hT, rfl⟩ hI hm.rel h
 have h3 : WL P n ops l (fun σ' w' => ∃ V', J V' w' ∧ MemI T.gl V' w' s' σ') σ w := by
  refine Lq h2 ?_
  rintro σ' w' ⟨s2, A', L', g1, hr⟩
  obtain ⟨_, g2⟩ := Ae3 g1
  obtain ⟨A2, L2, hr2⟩ := Ahn hr g2
  obtain ⟨g3, g4⟩ := hm.back hr2 h1
  exact ⟨_, hJ _ _ _ hj g3, g4⟩
 exact Sy (Y := fun a' w' => ∃ σ', Fits [] n a' σ' ∧ ∃ V', J V' w' ∧ MemI T.gl V' w' s' σ') (fun a' w' ⟨σ', g1, V', g2, g3⟩ => hk σ' V' w' a' g1 g2 g3) (Agq (Ajo hd) (h3 [] a ha))
theorem MemI.set {gl : List (Nat × List Value)} {V : Reg} (h : MemI gl V w s σ) {d : Nat} {p : PV} {v : Value} (hv : p.isV = true) (hp : Bo V w [] p v) : MemI gl V w ⟨Auc s.sl d p, [], []⟩ (Fv σ d v) :=
 ⟨h.lt, rfl, rfl, h.sl.set (.put hv hp), h.gl⟩
theorem MemI.round {gl : List (Nat × List Value)} {V : Reg} (h : MemI gl V w s σ) (hg : Gr w w') (hs : ∀ b, V b → w'.heap[b]? = w.heap[b]?) : MemI gl V w' s σ :=
 h.keep (fun _ h => h) (fun b hb => Nat.lt_of_lt_of_le (h.lt b hb) hg.le) hs hg
theorem MemI.val {gl : List (Nat × List Value)} {V : Reg} (h : MemI gl V w s σ) {t : Nat} {p : PV} (hp : (t, p) ∈ s.sl) (hv : p.isV = true) : Bo V w [] p (σ t) := (Cl.iff hv).1 (h.sl _ hp)
theorem Aqm {o : Oper} {g x : Operand} {ts : Array TypeId} (ho : o.op = .call ⟨.value g, #[x], ts⟩) {l : Nat} {v : Value} (hg : ev σ g = .func (.yield l) #[] #[]) (hx : ev σ x = v) :
  (execOp (ev σ) o).run P w = (Instr.yield l #[v]).run P w := by
 obtain ⟨d, op, ty, pos, after, gd⟩ := o
 simp only at ho
 subst ho
 simp [execOp, resolve, invoke, hg, hx, go_sem]
theorem At4 {F : Fence} {n : Nat} {P : Program} {Q : Exit → Act → World → Prop} {a : Act} {w : World} {c : Code} (m : Nat) (I : Nat → Act → World → Prop) (h0 : ∀ a w, ¬ I 0 a w)
  (hs : ∀ q a w, I (q + 1) a w → c.wpIn F n P (Exit.then (I q) Q) a w) (h : I m a w) : (Code.loop c).wpIn F n P Q a w := by
 refine wpIn_loop_rounds m ?_
 induction m generalizing a w with
 | zero => exact absurd h (h0 a w)
 | succ m ih =>
  rw [roundsIn_succ]
  refine wpIn_mono (hs m a w h) fun e a' w' hh => ?_
  cases e <;> first | exact ih hh | exact hh
def cA : Code → Code | .seq a _ => a | .cond _ a _ => a | .block _ a => a | .loop a => a | c => c
def cB : Code → Code | .seq _ b => b | .cond _ _ b => b | c => c
def cO : Code → List Oper | .region _ ops _ => ops.toList | _ => []
def fB (f : Func) : Code := match f.body with | some c => c | none => .skip
def oAt : List Oper → Nat → Oper
 | [], _ => ⟨none, .move (.tmp 0), 0, "", #[], none⟩
 | o :: _, 0 => o
 | _ :: l, q + 1 => oAt l q
end Go.Rx
