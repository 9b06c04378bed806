/- A part of the proof of a statement of this seat (see the text that ends in Proof): RxRun, RxPt, RxTab, RxHd, RxRow, RxAgg, RxOpn. No conditions of its own. -/
import Derived.Test.YtneipcijjnibdaaGreatDoorCpBB
import Derived.Test.YtneipcijjnibdaaGreatDoorCpBA
import Derived.ProofKit
import Derived.LaidMore
import Derived.DataReads
set_option linter.unusedVariables false
set_option linter.unusedSimpArgs false
namespace Go.Rx
open Go Go.Lv
variable {P : Program} {B B' : Reg} {w w' : World} {L L' : List MD} {s : S} {σs : List Env} {σ : Env} {Z : Fix} {A A' : Reg} {n : Nat} {ops : Array Oper}
variable {R : Type} {r : R} {T : Tab} {inl : Inl R}
abbrev LS := List (ET × Option TypeId)
def Cu : LS → List PV → Nat → List Nat
 | p :: r, v :: vs, c => match p.2 with
  | none => Cu r vs c
  | some _ => (match v with | .own i => i | _ => c) :: Cu r vs (c + 1)
 | _, _, _ => []
def Uh : LS → List MD
 | p :: r => match p.2 with
  | none => Uh r
  | some E => (match p.1 with | .list a => .own a.size E (.slice none 0 0) [] | _ => .dead) :: Uh r
 | [] => []
theorem Au3 (h : Mobs w A (L.map MD.Dn)) : ∀ (ls : LS), Mobs w A ((L ++ Uh ls).map MD.Dn) := by
 have one : ∀ (m : MD) (ms : List MD), m.Dn.holds none w → Mobs w A ((L ++ ms).map MD.Dn) → Mobs w A ((L ++ m :: ms).map MD.Dn) := by
  intro m ms hm h
  have : Mobs w A (m.Dn :: (L ++ ms).map MD.Dn) := ⟨none, hm, fun b hb => (by cases hb), h.Nl fun b hb => hb.elim id (fun h => by cases h)⟩
  refine this.perm ?_
  rw [List.map_append, List.map_append, List.map_cons]
  exact (List.perm_middle).symm
 intro ls
 induction ls with
 | nil => simpa [Uh] using h
 | cons p ls ih =>
  obtain ⟨e, o⟩ := p
  cases o with
  | none => exact ih
  | some E => cases e <;> exact one _ _ (by first | exact Amz | exact ⟨none, 0, 0, rfl, by simp, Nat.le_refl _, fun _ => rfl, fun _ => rfl, fun b h => by cases h⟩) ih
theorem Ac2 : ∀ {ls : LS} {vs : List PV} {seen : List Nat} {c : Nat}, Wq s ls vs seen = true → s.it.length ≤ c → distinct (Cu ls vs c) = true ∧ ∀ i ∈ Cu ls vs c, (i < s.it.length ∧ i ∉ seen) ∨ c ≤ i
 | [], [], _, _, _, _ => ⟨rfl, by simp [Cu]⟩
 | [], _ :: _, _, _, h, _ => by simp [Wq] at h
 | _ :: _, [], _, _, h, _ => by simp [Wq] at h
 | (e, none) :: ls, v :: vs, seen, c, h, hc => by
  simp only [Wq, Bool.and_eq_true] at h
  exact Ac2 (ls := ls) (vs := vs) (seen := seen) (c := c) h.2 hc
 | (e, some E) :: ls, v :: vs, seen, c, h, hc => by
  simp only [Wq] at h
  split at h
  ·obtain ⟨h1, h2⟩ := Ac2 h (c := c + 1) (by omega)
   refine ⟨?_, fun i hi => ?_⟩
   ·simp only [Cu, distinct, Bool.and_eq_true, Bool.not_eq_true']
    refine ⟨?_, h1⟩
    cases hx : It c (Cu ls vs (c + 1)) with
    | false => rfl
    | true => rcases h2 c (Ka.1 hx) with ⟨h3, _⟩ | h3 <;> omega
   ·simp only [Cu, List.mem_cons] at hi
    rcases hi with rfl | hi
    ·exact .inr (Nat.le_refl _)
    ·rcases h2 i hi with h3 | h3
     ·exact .inl h3
     ·exact .inr (by omega)
  ·rename_i a i
   simp only [Bool.and_eq_true, Bool.not_eq_true'] at h
   obtain ⟨⟨h0, hit⟩, h⟩ := h
   have hlt : i < s.it.length := by
    split at hit
    ·rename_i E' a' l hi
     exact (List.getElem?_eq_some_iff.1 (Afu hi (by intro e; cases e))).1
    ·cases hit
   obtain ⟨h1, h2⟩ := Ac2 h (c := c + 1) (by omega)
   refine ⟨?_, fun j hj => ?_⟩
   ·simp only [Cu, distinct, Bool.and_eq_true, Bool.not_eq_true']
    refine ⟨?_, h1⟩
    cases hx : It i (Cu ls vs (c + 1)) with
    | false => rfl
    | true =>
     rcases h2 i (Ka.1 hx) with ⟨_, h3⟩ | h3
     ·exact absurd (List.mem_cons_self) h3
     ·omega
   ·simp only [Cu, List.mem_cons] at hj
    rcases hj with rfl | hj
    ·exact .inl ⟨hlt, fun hm => by have := Ka.2 hm; rw [h0] at this; cases this⟩
    ·rcases h2 j hj with ⟨h3, h4⟩ | h3
     ·exact .inl ⟨h3, fun hm => h4 (List.mem_cons_of_mem _ hm)⟩
     ·exact .inr (by omega)
  ·cases h
theorem Axg {e : ET} {q : PV} {x : e.T} (hr : Rel Z s σs A L σ w) (h : Aav s e q = some x) (ho : owns q = []) (hb : e.Am8 = true → ∀ b, A b ∧ Z.R b → B' b) {L' : List MD} : Zh (fun b => A b ∧ Z.R b) w L B' w L' q (.val e x) := by
 obtain ⟨h1, h2⟩ := Aqg (L' := L') hr h (B' := fun b => A b ∧ Z.R b) (fun _ h => h) (fun i hi => by rw [ho] at hi; cases hi)
 refine ⟨h1, fun cs hcs => ?_⟩
 have h3 : Aj (fun b => A b ∧ Z.R b) w e x cs := h2 cs hcs
 cases hl : e.Am8 with
 | true => exact Aj.step (hb hl) (fun _ _ => rfl) h3
 | false => exact Aj.noL hl h3
theorem Axt {e : ET} {l : List e.T} {cs : List Value} (hb : e.Am8 = true → ∀ b, B b → B' b) (h : Az (Aj B w e) l cs) : Az (Aj B' w e) l cs := by
 cases hl : e.Am8 with
 | true => exact h.mono fun x c hx => Aj.step (hb hl) (fun _ _ => rfl) hx
 | false => exact h.mono fun x c hx => Aj.noL hl hx
theorem Ank (hr : Rel Z s σs A L σ w) {LP : List MD} (hP : ∀ (i : Nat) (m : MD), L[i]? = some m → LP[i]? = some m) : ∀ (ls : LS) (vs : List PV) (y : LTy ls) (seen : List Nat) (c : Nat) (s0 : S) (Lx LF : List MD),
  Wq s ls vs seen = true → Pc s ls vs = some y → (∀ p ∈ ls, Au9 p = true → ∀ b, A b ∧ Z.R b → B' b) → (∀ i m, (Uh ls)[i]? = some m → LP[c + i]? = some m) → Lx.length = s0.it.length → LF = Lx ++ (Cu ls vs c).map (fun i => LP.getD i .dead) →
  ∃ its, (Ce ls y s0).2 = ⟨s0.sl, s0.it ++ its, s0.st⟩ ∧ its.length = (Cu ls vs c).length ∧ All2 (Zh (fun b => A b ∧ Z.R b) w L B' w LF) vs (Ce ls y s0).1 ∧
   ∀ (i : Nat) (a : Item) (m : MD), its[i]? = some a → ((Cu ls vs c).map (fun i => LP.getD i .dead))[i]? = some m → ItemR B' w LF a m
 | [], vs, y, seen, c, s0, Lx, LF, ho, hp, _, _, _, _ => by
  rw [Aqo hp]
  refine ⟨[], ?_, rfl, All2.nil, fun i a m h => by simp at h⟩
  rw [Ak2]; simp
 | p :: ls, vs, y, seen, c, s0, Lx, LF, ho, hp, hb, hn, hlen, hLF => by
  have main : ∀ (v : PV) (vs' : List PV) (x : p.1.T) (rest : S → List PV × S), vs = v :: vs' → Aav s p.1 v = some x →
    (Ce (p :: ls) y s0 = ((Ca p.1 p.2 x s0).1 :: (rest (Ca p.1 p.2 x s0).2).1, (rest (Ca p.1 p.2 x s0).2).2)) →
    (∀ (seen : List Nat) (c : Nat) (s1 : S) (Lx : List MD), Wq s ls vs' seen = true → (∀ i m, (Uh ls)[i]? = some m → LP[c + i]? = some m) → Lx.length = s1.it.length → LF = Lx ++ (Cu ls vs' c).map (fun i => LP.getD i .dead) →
     ∃ its, (rest s1).2 = ⟨s1.sl, s1.it ++ its, s1.st⟩ ∧ its.length = (Cu ls vs' c).length ∧ All2 (Zh (fun b => A b ∧ Z.R b) w L B' w LF) vs' (rest s1).1 ∧
      ∀ (i : Nat) (a : Item) (m : MD), its[i]? = some a → ((Cu ls vs' c).map (fun i => LP.getD i .dead))[i]? = some m → ItemR B' w LF a m) →
    ∃ its, (Ce (p :: ls) y s0).2 = ⟨s0.sl, s0.it ++ its, s0.st⟩ ∧ its.length = (Cu (p :: ls) vs c).length ∧ All2 (Zh (fun b => A b ∧ Z.R b) w L B' w LF) vs (Ce (p :: ls) y s0).1 ∧
     ∀ (i : Nat) (a : Item) (m : MD), its[i]? = some a → ((Cu (p :: ls) vs c).map (fun i => LP.getD i .dead))[i]? = some m → ItemR B' w LF a m := by
   intro v vs' x rest hvs hx hu hrest
   subst hvs
   rw [hu]
   have hbp := hb p (.head _)
   obtain ⟨e, o⟩ := p
   cases o with
   | none =>
    simp only [Wq, Bool.and_eq_true] at ho
    have e1 : Ca e none x s0 = (.val e x, s0) := Atr
    simp only [e1]
    obtain ⟨its, h1, h2, h3, h4⟩ := hrest seen c s0 Lx ho.2 hn hlen hLF
    refine ⟨its, h1, h2, .cons (Axg hr hx (isEmpty_nil ho.1) (fun hl => hbp ?_)) h3, h4⟩
    cases e <;> first | exact hl | cases hl
   | some E =>
    simp only [Wq] at ho
    split at ho
    ·
     rename_i a
     have hx' : x = [] := by
      have : elems s a .nils = some x := hx
      simpa [elems] using this.symm
     subst hx'
     have hc : LP[c]? = some (.own a.size E (.slice none 0 0) []) := hn 0 _ rfl
     have e1 : Ca (.list a) (some E) [] s0 = (.own s0.new, s0.add (.arr E a [])) := rfl
     simp only [e1]
     obtain ⟨its, h1, h2, h3, h4⟩ := hrest seen (c + 1) (s0.add (.arr E a [])) (Lx ++ [.own a.size E (.slice none 0 0) []]) ho (fun i m hi => by rw [Nat.add_assoc, Nat.add_comm 1 i]; exact hn (i + 1) m (by simpa [Uh] using hi))
      (by simp [S.add, hlen]) (by rw [hLF]; simp [Cu, List.getD_eq_getElem?_getD, hc])
     refine ⟨.arr E a [] :: its, by rw [h1]; simp [S.add], by simp [Cu, h2], .cons ⟨rfl, fun cs hcs => ?_⟩ h3, fun i b m hi hm => ?_⟩
     ·refine ⟨a.size, E, .slice none 0 0, [], ?_, hcs⟩
      rw [hLF, S.new, ← hlen]
      simp [Cu, List.getD_eq_getElem?_getD, hc]
     ·cases i with
      | zero =>
       simp [Cu, List.getD_eq_getElem?_getD, hc] at hi hm
       subst hi hm
       exact ⟨rfl, rfl, rfl⟩
      | succ i => exact h4 i b m (by simpa using hi) (by simpa [Cu] using hm)
    ·
     rename_i a i
     simp only [Bool.and_eq_true, Bool.not_eq_true'] at ho
     obtain ⟨⟨h0, hit⟩, ho⟩ := ho
     split at hit
     ·rename_i E' a' l hi
      simp only [Bool.and_eq_true, decide_eq_true_eq] at hit
      obtain ⟨hE, rfl⟩ := hit
      have := Be hE
      subst this
      obtain ⟨u, cs0, g1, g2⟩ := hr.mem.arr hi
      have hx' : x = l := by
       have : elems s a' (.own i) = some x := hx
       simp [elems, hi] at this
       exact this.symm
      subst hx'
      have hc : LP[i]? = some (.own a'.size E' u cs0) := hP i _ g1
      have e1 : Ca (.list a') (some E') x s0 = (.own s0.new, s0.add (.arr E' a' x)) := rfl
      simp only [e1]
      obtain ⟨its, h1, h2, h3, h4⟩ := hrest (i :: seen) (c + 1) (s0.add (.arr E' a' x)) (Lx ++ [.own a'.size E' u cs0]) ho (fun i m hi => by rw [Nat.add_assoc, Nat.add_comm 1 i]; exact hn (i + 1) m (by simpa [Uh] using hi))
       (by simp [S.add, hlen]) (by rw [hLF]; simp [Cu, List.getD_eq_getElem?_getD, hc])
      refine ⟨.arr E' a' x :: its, by rw [h1]; simp [S.add], by simp [Cu, h2], .cons ⟨rfl, fun cs hcs => ?_⟩ h3, fun q b m hq hm => ?_⟩
      ·obtain ⟨z, E2, v2, c2, k1, k2⟩ := hcs
       rw [g1] at k1; cases k1
       refine ⟨a'.size, E', u, cs0, ?_, k2⟩
       rw [hLF, S.new, ← hlen]
       simp [Cu, List.getD_eq_getElem?_getD, hc]
      ·cases q with
       | zero =>
        simp [Cu, List.getD_eq_getElem?_getD, hc] at hq hm
        subst hq hm
        exact ⟨rfl, rfl, Axt hbp g2⟩
       | succ q => exact h4 q b m (by simpa using hq) (by simpa [Cu] using hm)
     ·cases hit
    ·cases ho
  cases ls with
  | nil =>
   obtain ⟨v, rfl, hx⟩ := Aqt hp
   exact main v [] y (fun s1 => ([], s1)) rfl hx (Xw p y s0) (fun seen c s1 Lx _ _ hlen hLF => ⟨[], by simp, rfl, All2.nil, fun i a m h => by simp at h⟩)
  | cons q r =>
   obtain ⟨v, vs', x, y', rfl, rfl, hx, hy⟩ := Aow hp
   exact main v vs' x (fun s1 => Ce (q :: r) y' s1) rfl hx (Sg p q r x y' s0)
    (fun seen c s1 Lx ho hn hlen hLF => Ank hr hP (q :: r) vs' y' seen c s1 Lx LF ho hy (fun p hp => hb p (.tail _ hp)) hn hlen hLF)
theorem Js {e : ET} {x : e.T} {cs : List Value} (h : Aj B w e x cs) : Aj (fun b => b < w.heap.size ∧ B b) w e x cs :=
 match e, x, h with
 | .int _, _, h => h
 | .bool, _, h => h
 | .str, _, h => h
 | .list _, _, ⟨v, c0, h1, h2, h3⟩ => ⟨v, c0, h1, h2.start, h3.mono fun _ _ h => Js h⟩
 | .vec _ _, _, ⟨h1, h2⟩ => ⟨h1, h2.mono fun _ _ h => Js h⟩
 | .cons _ _, _, ⟨c1, c2, e, h1, h2⟩ => ⟨c1, c2, e, Js h1, Js h2⟩
 | .nil, _, h => h
def Ud : PV → Bool
 | .val _ _ => true
 | .own _ => true
 | .agg l => go l
 | _ => false
where go : List PV → Bool
 | [] => true
 | a :: r => Ud a && go r
mutual
theorem Aor : ∀ {p : PV} {cs : List Value}, Ud p = true → EncC B w L p cs → EncC (fun b => b < w.heap.size ∧ B b) w L p cs
 | .val e x, cs, _, h => Js (show Aj B w e x cs from h)
 | .own i, cs, _, h => h
 | .agg l, cs, hv, h => Alk hv (show EncC.go B w L l cs from h)
 | .tup _, _, hv, _ => by cases hv
 | .nils, _, hv, _ => by cases hv
 | .ptr _ _, _, hv, _ => by cases hv
 | .view _ _ _ _ _ _, _, hv, _ => by cases hv
 | .rptr _, _, hv, _ => by cases hv
 | .fn _ _, _, hv, _ => by cases hv
 | .cst _, _, hv, _ => by cases hv
 | .any, _, hv, _ => by cases hv
 | .gd _ _ _, _, hv, _ => by cases hv
 | .off, _, hv, _ => by cases hv
 | .undef, _, hv, _ => by cases hv
theorem Alk : ∀ {l : List PV} {cs : List Value}, Ud.go l = true → EncC.go B w L l cs → EncC.go (fun b => b < w.heap.size ∧ B b) w L l cs
 | [], cs, _, h => h
 | a :: l, cs, hv, ⟨c1, c2, e, h1, h2⟩ => by
  simp only [Ud.go, Bool.and_eq_true] at hv
  exact ⟨c1, c2, e, Aor hv.1 h1, Alk hv.2 h2⟩
end
theorem Alb : ∀ {l : List PV} {vs : List Value}, Ud.go l = true → EncVs B w L l vs → EncVs (fun b => b < w.heap.size ∧ B b) w L l vs
 | [], vs, _, h => h
 | a :: l, vs, hv, ⟨v, vs', e, h1, h2⟩ => by
  simp only [Ud.go, Bool.and_eq_true] at hv
  exact ⟨v, vs', e, h1.mono fun c h => Aor hv.1 h, Alb hv.2 h2⟩
theorem Ajh {e : ET} {o : Option TypeId} {x : e.T} {s0 : S} : Ud (Ca e o x s0).1 = true := by
 unfold Ca
 split <;> rfl
theorem Aj2 {e : ET} {o : Option TypeId} {x : e.T} {s0 : S} (h : ∀ a ∈ s0.it, ∃ E e' l, a = .arr E e' l) : ∀ a ∈ (Ca e o x s0).2.it, ∃ E e' l, a = .arr E e' l := by
 unfold Ca
 split
 ·intro a ha
  simp only [S.add, List.mem_append, List.mem_singleton] at ha
  rcases ha with ha | ha
  ·exact h a ha
  ·exact ⟨_, _, _, ha⟩
 ·exact h
theorem Amm : ∀ (ls : LS) (x : LTy ls) (s0 : S), Ud.go (Ce ls x s0).1 = true
 | [], x, s0 => rfl
 | [p], x, s0 => by
  rw [Xw]
  have h1 : Ud (Ca p.1 p.2 x s0).1 = true := Ajh
  simp only [Ud.go, h1]; rfl
 | p :: q :: r, (x, y), s0 => by
  rw [Sg]
  have h1 : Ud (Ca p.1 p.2 x s0).1 = true := Ajh
  simp only [Ud.go, h1, Amm (q :: r) y _]; rfl
theorem Aml : ∀ (ls : LS) (x : LTy ls) (s0 : S), (∀ a ∈ s0.it, ∃ E e' l, a = .arr E e' l) → ∀ a ∈ (Ce ls x s0).2.it, ∃ E e' l, a = .arr E e' l
 | [], x, s0, h => h
 | [p], x, s0, h => by rw [Xw]; exact Aj2 h
 | p :: q :: r, (x, y), s0, h => by rw [Sg]; exact Aml (q :: r) y _ (Aj2 h)
mutual
theorem At5 : ∀ {sh : Sh} {vs r : List PV} {u : PV}, Gp sh vs = some (u, r) → Ud.go vs = true → Ud u = true ∧ Ud.go r = true
 | .lf e o, v :: vs, r, u, h, hv => by
  simp only [Gp, Option.some.injEq, Prod.mk.injEq] at h
  obtain ⟨rfl, rfl⟩ := h
  simpa [Ud.go] using hv
 | .lf e o, [], r, u, h, hv => by simp [Gp] at h
 | .agg l, vs, r, u, h, hv => by
  simp only [Gp] at h
  split at h
  ·rename_i us r' h1
   cases h
   exact Afg h1 hv
  ·cases h
theorem Afg : ∀ {l : List Sh} {vs r us : List PV}, Gp.go l vs = some (us, r) → Ud.go vs = true → Ud.go us = true ∧ Ud.go r = true
 | [], vs, r, us, h, hv => by
  simp only [Gp.go, Option.some.injEq, Prod.mk.injEq] at h
  obtain ⟨rfl, rfl⟩ := h
  exact ⟨rfl, hv⟩
 | a :: l, vs, r, us, h, hv => by
  simp only [Gp.go] at h
  split at h
  ·rename_i u vs' h1
   split at h
   ·rename_i us' vs'' h2
    cases h
    obtain ⟨g1, g2⟩ := At5 h1 hv
    obtain ⟨g3, g4⟩ := Afg h2 g2
    exact ⟨by simp [Ud.go, g1, g3], g4⟩
   ·cases h
  ·cases h
end
theorem Avu {rs : List Sh} {p : ET × Option TypeId} (hp : p ∈ shL rs) (h : Au9 p = true) : Axc rs = true := by
 unfold Axc; exact List.any_eq_true.2 ⟨p, hp, h⟩
theorem Ahr {f : Nat} {fn : Func} {ps rs : List Sh} {F : LTy (shL ps) → Option (LTy (shL rs))} {RUN : S → Option (LTy (shL rs))} (hE : Ent P f)
  (hrun : ∀ x y pvs, args ps x = some pvs → F x = some y → RUN ⟨Ks 0 pvs, argI ps x, []⟩ = some y)
  (hcalls : ∀ (Z : Fix) (A : Reg) (L : List MD) (w : World) (s : S) (y : LTy (shL rs)) (vs : List Value) (Q : Ending → World → Prop), Z.gl = T.gl → Rel Z s [] A L (Alq vs) w → vs.length = ps.length → RUN s = some y →
   (∀ s' A' L' σ' w', Apf P rs fn.results.toList s' = some y → Rel Z s' [] A' L' σ' w' → ∃ us, Abf P σ' w' fn.results.toList us ∧ Q (.returned (packRes us)) w') → Calls P f vs.toArray w Q) : ConOk P T.gl f ⟨ps, rs, F⟩ := by
 refine ⟨hE, fun R N w L0 vs pvs x y hx hlen0 hit0 hmob0 hvs hgl hy => ?_⟩
 have hx' : args ps x = some pvs := hx
 have hy' := hrun x y pvs hx' hy
 ·let Z : Fix := ⟨fun b => ((R b ∧ N b) ∨ ∃ p ∈ T.gl, p.1 = b) ∨ ¬ N b ∨ w.heap.size ≤ b, fun b => ¬ N b, w, fun b hb => .inr (.inr hb), fun b hb => .inr (.inl hb), T.gl, fun p hp => ⟨.inl (.inr ⟨p, hp, rfl⟩), fun h => h (hgl p hp).2.1, (hgl p hp).1, (hgl p hp).2.2⟩⟩
  have hval : Ud.go pvs = true := by
   unfold args Ab6 at hx'
   split at hx'
   ·rename_i us hs
    cases hx'
    exact (Afg hs (Amm _ _ _)).1
   ·cases hx'
  have hvs2 : EncVs (fun b => (b < w.heap.size ∧ N b) ∧ Z.R b) w L0 pvs vs := EncVs.step (fun b hb => ⟨⟨hb.1, hb.2.2⟩, .inl (.inl hb.2)⟩) (fun _ _ => rfl) (.refl L0) (Alb hval hvs)
  have hst : St (fun b => b < w.heap.size ∧ N b) w [.old Z.M Z.w0] (L0.map MD.Dn) := by
   refine ⟨fun b hb => hb.1, fun f hf => ?_, hmob0.Nl fun b hb => hb.2⟩
   cases hf with
   | head => exact ⟨.refl _, fun b hb hM => ⟨⟨hb, Classical.not_not.1 hM⟩, rfl⟩⟩
   | tail _ h => cases h
  have hr : Rel Z ⟨Ks 0 pvs, argI ps x, []⟩ [] (fun b => b < w.heap.size ∧ N b) L0 (Alq vs) w :=
   Rel.as (L := L0) hst (i := 0) rfl ⟨⟨hlen0, fun i a m h1 h2 => by
    have h3 := hit0 i a m h1 h2
    obtain ⟨E, e', l, rfl⟩ := Aml (shL ps) x ⟨[], [], []⟩ (by simp) a (List.mem_of_getElem? h1)
    cases m with
    | dead => exact h3
    | box _ _ _ => exact h3
    | own z E2 v2 c2 => exact ⟨h3.1, h3.2.1, h3.2.2.mono fun x c h => Aj.step (fun b hb => ⟨⟨hb.1, hb.2.2⟩, .inl (.inl hb.2)⟩) (fun _ _ => rfl) (Js h)⟩⟩,
    Acu hvs2 (fun i v hi => by rw [Nat.zero_add]; exact Aoi hi), trivial⟩ rfl
  have hlen : vs.length = pvs.length := hvs.length
  have hpl : pvs.length = ps.length := by
   unfold args Ab6 at hx'
   split at hx'
   ·rename_i us hs
    cases hx'
    have key : ∀ (l : List Sh) (vs r us : List PV), Gp.go l vs = some (us, r) → us.length = l.length := by
     intro l
     induction l with
     | nil => intro vs r us h; simp only [Gp.go, Option.some.injEq, Prod.mk.injEq] at h; obtain ⟨rfl, _⟩ := h; rfl
     | cons a l ih =>
      intro vs r us h
      simp only [Gp.go] at h
      split at h
      ·split at h
       ·rename_i h2; cases h; simp [ih _ _ _ h2]
       ·cases h
      ·cases h
    exact key _ _ _ _ hs
   ·cases hx'
  refine hcalls Z _ _ w _ y vs _ rfl hr (hlen.trans hpl) hy' ?_
  intro s' A' L' σ' w' h1 hr'
  have fin : Apf P rs fn.results.toList s' = some y → ∃ us, Abf P σ' w' fn.results.toList us ∧ ∃ us', Ending.returned (packRes us) = .returned (packRes us') ∧ ResOk T.gl R N w w' rs y us' := by
   intro h1
   unfold Apf at h1
   split at h1
   ·cases h1
   ·rename_i ls0 hls0
    split at h1
    ·cases h1
    ·rename_i s1 hs1
     obtain ⟨A1, L1, hr1, _⟩ := Gh hr' hs1
     split at h1
     ·rename_i ls hls
      obtain ⟨ho, h1⟩ := Ak h1
      unfold Ayy at hls
      split at hls
      ·rename_i vs1 hvs1
       obtain ⟨us, hus, huv⟩ := Aix hr1 hvs1
       refine ⟨us, hus, us, rfl, ?_⟩
       have hold := hr1.fact 1 (f := .old Z.M Z.w0) rfl
       have hA : ∀ b, b < w.heap.size → N b → A1 b := fun b hb hN => (hold.2 b hb (fun h => h hN)).1
       have hkeep : KeepN N w w' := ⟨fun b hb hN => (hold.2 b hb (fun h => h hN)).2, hold.1⟩
       have hmob := Au3 (St.mobs hr1) (shL rs)
       obtain ⟨hd, hidx⟩ := Ac2 (s := s1) (c := L1.length) ho (by rw [hr1.len]; exact Nat.le_refl _)
       refine ⟨hkeep, fun b => A1 b ∧ (¬ N b ∨ w.heap.size ≤ b), (Cu (shL rs) ls L1.length).map (fun i => (L1 ++ Uh (shL rs)).getD i .dead), fun b hb => ⟨hb.2, St.lt hr1 b hb.1⟩, ?_, ?_⟩
       ·refine (Aoj hmob hd).Nl ?_
        rintro b (hb | hb)
        ·exact hb.1
        ·exact hA b hb.1 hb.2
       ·intro s0 L0 B' hL0 hB1 hB2
        obtain ⟨its, g1, g2, g3, g4⟩ := Ank hr1 (B' := B') (LP := L1 ++ Uh (shL rs)) (fun i m hi => by rw [List.getElem?_append_left (List.getElem?_eq_some_iff.1 hi).1]; exact hi) (shL rs) ls y [] L1.length s0 L0 _ ho h1
         (fun p hp hl b hb => by
          rcases hb.2 with hR | hN
          ·exact hB2 (Avu hp hl) b hR
          ·exact hB1 b ⟨hb.1, hN⟩)
         (fun i m hi => by rw [List.getElem?_append_right (by omega), Nat.add_sub_cancel_left]; exact hi) hL0 rfl
        obtain ⟨ps', g5, g6⟩ := Aht hls huv g3
        exact ⟨ps', its, g1, g5, g6, by rw [g2]; simp, g4⟩
      ·cases hls
     ·cases h1
  obtain ⟨us, k1, us', k2, k3⟩ := fin h1
  exact ⟨us, k1, us', k2, k3⟩
theorem Ase (hMix : P.follows .mixedOrders = true) {f : Nat} {fn : Func} {ans : List (Nat × An)} {an : An} {ps rs : List Sh} {F : LTy (shL ps) → Option (LTy (shL rs))} (hf : P.funcs[f]? = some fn) (hE : Ent P f) (hT : Zi P T) (hA : ∀ p ∈ ans, Ent P p.1)
  (hle : Nat.ble ps.length fn.ntmps = true) (h : ∀ x, run P T ans fn an ps rs x = F x) : ConOk P T.gl f ⟨ps, rs, F⟩ := by
 cases hc : fn.body with
 | none =>
  refine Ahr (RUN := fun _ => none) (fn := fn) hE (fun x y pvs hx hy => ?_) (fun _ _ _ _ _ _ _ _ _ _ _ h => by cases h)
  rw [← h x] at hy
  unfold run at hy
  rw [hc] at hy
  exact hy
 | some c =>
  refine Ahr (T := T) (fn := fn) (RUN := ex P T (Vr P T 8 ans) fn.ntmps c an { n := Apf P rs fn.results.toList, x := fun _ _ => none, r := Apf P rs fn.results.toList }) hE (fun x y pvs hx hy => ?_) ?_
  ·rw [← h x] at hy
   unfold run at hy
   rw [hc, hx] at hy
   exact hy
  ·intro Z A L w s y vs Q hZ hr hl hy fin
   refine Alh (rs := fn.results.toList) hf hc rfl (by simp) (by rw [hl]; exact hle) (W.mono (Ax1 hMix ⟨hT, hZ⟩ (Atd hMix hT hA 8) c hy hr) ?_)
   rintro e σ' w' ⟨s', A', L', h1, hr'⟩
   cases e with
   | normal => exact ⟨.inr rfl, fin s' A' L' σ' w' h1 hr'⟩
   | ret => exact ⟨.inl rfl, fin s' A' L' σ' w' h1 hr'⟩
   | exit id => cases h1
   | goto l => cases h1
   | panic c => cases h1
   | outgrown => cases h1
end Go.Rx
set_option linter.unusedVariables false
namespace Go.Rx
open Go Go.Lv
structure Pt (R : Type) where
 q : Nat
 n : Nat
 c : Code
 an : An
 k : K R
inductive PS (R : Type) | l | r | d | lp (kn : S → Option R) | call (i f : Nat) | dcall (i f fuel : Nat) (z listed : Array Bool)
def Ar1 (f : Func) : Code := match f.body with | some c => c | none => .skip
variable {R : Type}
noncomputable def Pt.e (P : Program) (T : Tab) (ans : List (Nat × An)) (p : Pt R) (s : S) : Option R := match p.c with
 | .loop _ => ex P T (Vr P T p.q ans) p.n p.c p.an p.k s
 | _ => hold (fun s => ex P T (Vr P T p.q ans) p.n p.c p.an p.k s) s
noncomputable def Pt.it (P : Program) (T : Tab) (ans : List (Nat × An)) (p : Pt R) (q : Nat) (s : S) : Option R := match p.c with
 | .loop a => iter p.an (fun kn s' => ex P T (Vr P T p.q ans) p.n a p.an.l { p.k with n := kn } s') q s
 | _ => none
noncomputable def Pt.step (P : Program) (T : Tab) (ans : List (Nat × An)) (p : Pt R) : PS R → Pt R
 | .l => match p.c with
  | .seq a b => ⟨p.q, p.n, a, p.an.l, { p.k with n := Au6 p.an fun s' => ex P T (Vr P T p.q ans) p.n b p.an.r p.k s' }⟩
  | .cond _ a _ => ⟨p.q, p.n, a, p.an.l, p.k⟩
  | _ => p
 | .r => match p.c with
  | .seq _ b => ⟨p.q, p.n, b, p.an.r, p.k⟩
  | .cond _ _ b => ⟨p.q, p.n, b, p.an.r, p.k⟩
  | _ => p
 | .d => match p.c with
  | .block id a => ⟨p.q, p.n, a, p.an.l, { p.k with x := fun id' s' => Bj (Nat.beq id' id ) (p.k.n s' ) <| p.k.x id' s' }⟩
  | _ => p
 | .lp kn => match p.c with
  | .loop a => ⟨p.q, p.n, a, p.an.l, { p.k with n := An0 p.an kn }⟩
  | _ => p
 | .call i f => match p.c, p.q, P.funcs[f]?, Vr.getAn ans f with
  | .region _ ops false, q + 1, some fn, some an =>
   let fin := Vr.finK P fn.results.toList fun s v => Aox P T (Apj p.an (Vr P T (q + 1) ans)) p.n ops (ops.toList.drop (i + 1)) (s.Cq ((ops[i]?).bind (·.dst)) v) p.k.n
   ⟨q, fn.ntmps, Ar1 fn, an, { n := fin, x := fun _ _ => none, r := fin }⟩
  | _, _, _, _ => p
 | .dcall i f fuel z listed => match p.c, p.q, P.funcs[f]?, Vr.getAn ans f with
  | .region _ ops true, q + 1, some fn, some an =>
   let fin := Vr.finK P fn.results.toList fun s v => Rz P T (Apj p.an (Vr P T (q + 1) ans)) p.n (Aiu p.an) ops fuel z listed (s.Cq ((ops[i]?).bind (·.dst)) v) p.k.n
   ⟨q, fn.ntmps, Ar1 fn, an, { n := fin, x := fun _ _ => none, r := fin }⟩
  | _, _, _, _ => p
noncomputable def Pt.at (P : Program) (T : Tab) (ans : List (Nat × An)) : Pt R → List (PS R) → Pt R
 | p, [] => p
 | p, x :: l => Pt.at P T ans (p.step P T ans x) l
noncomputable def Pt.root (P : Program) (fn : Func) (an : An) (rs : List Sh) : Pt (LTy (shL rs)) :=
 ⟨8, fn.ntmps, Ar1 fn, an, { n := Apf P rs fn.results.toList, x := fun _ _ => none, r := Apf P rs fn.results.toList }⟩
noncomputable def PE (P : Program) (T : Tab) (ans : List (Nat × An)) (fn : Func) (an : An) (rs : List Sh) (l : List (PS (LTy (shL rs)))) (s : S) : Option (LTy (shL rs)) := (Pt.at P T ans (Pt.root P fn an rs) l).e P T ans s
noncomputable def PI (P : Program) (T : Tab) (ans : List (Nat × An)) (fn : Func) (an : An) (rs : List Sh) (l : List (PS (LTy (shL rs)))) (q : Nat) (s : S) : Option (LTy (shL rs)) := (Pt.at P T ans (Pt.root P fn an rs) l).it P T ans q s
theorem Anh (a : Option R) : both a [a, a] = a := by simp [both]
theorem Am5 (a : Option R) : both a [a, a, a] = a := by simp [both]
end Go.Rx
namespace Go.Rx
open Go Go.Lv
theorem ConOk.mono {P : Program} {gl gl' : List (Nat × List Value)} {f : Nat} {c : Con} (h : ConOk P gl f c) (hs : gl.Sublist gl') : ConOk P gl' f c := by
 refine ⟨h.ent, fun R N w L0 vs ps x y h1 h2 h3 h4 h5 h6 h7 => (h.ok R N w L0 vs ps x y h1 h2 h3 h4 h5 (fun p hp => h6 p (hs.subset hp)) h7).mono ?_⟩
 rintro e w' ⟨us, he, hk, A1, L1, g1, g2, g3⟩
 exact ⟨us, he, hk, A1, L1, g1, g2, fun s L B' k1 k2 k3 => g3 s L B' k1 k2 fun hr b hb => k3 hr b (hb.imp id fun ⟨p, hp, he⟩ => ⟨p, hs.subset hp, he⟩)⟩
theorem Zi.nil {P : Program} {gl : List (Nat × List Value)} {vw : Bool} : Zi P ⟨[], gl, vw⟩ := fun f c h => by cases h
theorem Zi.cons {P : Program} {g : Nat} {c : Con} {r : List (Nat × Con)} {gl : List (Nat × List Value)} {vw : Bool} (h : ConOk P gl g c) (hr : Zi P ⟨r, gl, vw⟩) : Zi P ⟨(g, c) :: r, gl, vw⟩ := fun f c' h' => by
 simp only [Tab.get, Ay7] at h'
 cases hb : Nat.beq g f with
 | true =>
  rw [hb] at h'
  have := Be hb
  subst this
  cases h'; exact h
 | false => rw [hb] at h'; exact hr f c' h'
theorem AnsOk.nil {P : Program} : ∀ p ∈ ([] : List (Nat × An)), Ent P p.1 := by simp
theorem AnsOk.cons {P : Program} {g : Nat} {a : An} {r : List (Nat × An)} (h : Ent P g) (hr : ∀ p ∈ r, Ent P p.1) : ∀ p ∈ (g, a) :: r, Ent P p.1 := by
 intro p hp
 rcases List.mem_cons.1 hp with rfl | hp
 ·exact h
 ·exact hr p hp
end Go.Rx
namespace Go.Rx
variable {R α : Type}
theorem Fb {a b c : Option R} (h : a = c) (h1 : b = c) : both a [b] = c := by subst h; subst h1; exact Aih _
theorem Ey {a b d c : Option R} (h : a = c) (h1 : b = c) (h2 : d = c) : both a [b, d] = c := by subst h; subst h1; subst h2; exact Anh _
theorem Ew {a b d e c : Option R} (h : a = c) (h1 : b = c) (h2 : d = c) (h3 : e = c) : both a [b, d, e] = c := by subst h; subst h1; subst h2; subst h3; exact Am5 _
theorem Gm {l : List α} {a b c : Option R} (h : l = [] → a = c) (h1 : b = c) : Am6 l a b = c := by subst h1; exact Awj h
theorem Gi {o : Option α} {f g : α → Option R} (h : ∀ x, f x = g x) : Option.bind o f = Option.bind o g := by rw [funext h]
theorem Ct {o : Option α} {f : α → Option R} {t : Option R} (h : o = none → none = t) (h1 : ∀ x, o = some x → f x = t) : Option.bind o f = t := by
 cases o with
 | none => exact h rfl
 | some x => exact h1 x rfl
theorem Gj (f : α → Option R) : Option.bind none f = none := rfl
theorem Bu (x : α) (f : α → Option R) : Option.bind (some x) f = f x := rfl
theorem Bt (o : Option α) : Option.bind o (fun _ => (none : Option R)) = none := by cases o <;> rfl
theorem Jo {c : Prop} [Decidable c] {a b a' b' : Option R} (h : c → a = a') (h1 : ¬ c → b = b') : (if c then a else b) = if c then a' else b' := by
 by_cases hc : c
 ·rw [if_pos hc, if_pos hc]; exact h hc
 ·rw [if_neg hc, if_neg hc]; exact h1 hc
theorem Di {c : Prop} [Decidable c] {a b t : Option R} (h : c → a = t) (h1 : ¬ c → b = t) : (if c then a else b) = t := by
 by_cases hc : c
 ·rw [if_pos hc]; exact h hc
 ·rw [if_neg hc]; exact h1 hc
abbrev vi (x : Int) : PV := .val (.int .i64) x
abbrev vc (x : UInt8) : PV := .val (.int .u8) x
abbrev vu (x : UInt32) : PV := .val (.int .u32) x
abbrev vq (x : UInt64) : PV := .val (.int .u64) x
abbrev vx (x : Int32) : PV := .val (.int .i32) x
abbrev vt (x : Bool) : PV := .val .bool x
abbrev vs (x : List UInt8) : PV := .val .str x
abbrev vb (x : List UInt8) : PV := .val (.list (.int .u8)) x
abbrev vl (x : List Int) : PV := .val (.list (.int .i64)) x
abbrev vw (x : List Int32) : PV := .val (.list (.int .i32)) x
abbrev vv (x : List UInt32) : PV := .val (.list (.int .u32)) x
end Go.Rx
set_option linter.unusedVariables false
namespace Go.Rx
open Go Go.Lv
structure Hd where
 p : List Sh
 r : List Sh
 a : An
 T : Tab
 s : List (Nat × An)
 f : Func
noncomputable def Hd.e (P : Program) (H : Hd) : List (PS (LTy (shL H.r))) → S → Option (LTy (shL H.r)) := PE P H.T H.s H.f H.a H.r
noncomputable def Hd.i (P : Program) (H : Hd) : List (PS (LTy (shL H.r))) → Nat → S → Option (LTy (shL H.r)) := PI P H.T H.s H.f H.a H.r
noncomputable def Hd.u (P : Program) (H : Hd) (x : LTy (shL H.p)) : Option (LTy (shL H.r)) := run P H.T H.s H.f H.a H.p H.r x
def okH (H : Hd) : Bool := (!(H.f.name == "runtime.NumGoroutine") && H.f.body.isSome) && Nat.ble H.p.length H.f.ntmps
theorem Hd.con {P : Program} (hM : P.follows .mixedOrders = true) (H : Hd) {f : Nat} {F : LTy (shL H.p) → Option (LTy (shL H.r))} (hf : P.funcs[f]? = some H.f) (hT : Zi P H.T) (hA : ∀ p ∈ H.s, Ent P p.1)
  (hb : okH H = true) (h : ∀ x, H.u P x = F x) : ConOk P H.T.gl f ⟨H.p, H.r, F⟩ := by
 simp only [okH, Bool.and_eq_true, Bool.not_eq_true'] at hb
 obtain ⟨c, hc⟩ := Option.isSome_iff_exists.1 hb.1.2
 exact Ase (T := H.T) hM hf (Ent.mk hf hb.1.1 hc) hT hA hb.2 h
theorem Hd.Baa {P : Program} (hM : P.follows .mixedOrders = true) (H : Hd) {f : Nat} {F : LTy (shL H.p) → Option (LTy (shL H.r))} (hf : P.funcs[f]? = some H.f) (hT : Zi P H.T)
  (hb : (H.s.isEmpty && okH H) = true) (h : ∀ x, H.u P x = F x) : ConOk P H.T.gl f ⟨H.p, H.r, F⟩ := by
 rw [Bool.and_eq_true, List.isEmpty_iff] at hb
 exact Hd.con hM H hf hT (fun p hp => by rw [hb.1] at hp; cases hp) hb.2 h
theorem ind {p : Nat → Prop} (h : p 0) (hs : ∀ q, p q → p (q + 1)) : ∀ q, p q := fun q => Nat.rec h hs q
variable {R α : Type}
noncomputable abbrev bo (a : Option R) : Option R := both a [a]
noncomputable abbrev bo2 (a : Option R) : Option R := both a [a, a]
theorem Yy (a : Option R) : both a [a] = a := Aih a
theorem Nc (a : Option R) : both a [a, a] = a := Anh a
theorem Nb (a : Option R) : both a [a, a, a] = a := Am5 a
abbrev Si : Sh := .lf (.int .i64) none
abbrev Su : Sh := .lf (.int .u32) none
abbrev Sq : Sh := .lf (.int .u64) none
abbrev Sx : Sh := .lf (.int .i32) none
abbrev Sz : Sh := .lf .bool none
abbrev Ss : Sh := .lf .str none
abbrev Sb : Sh := .lf (.list (.int .u8)) none
abbrev Sl : Sh := .lf (.list (.int .i64)) none
abbrev Sw : Sh := .lf (.list (.int .i32)) none
abbrev Sv : Sh := .lf (.list (.int .u32)) none
abbrev Ob (e : Nat) : Sh := .lf (.list (.int .u8)) (some e)
abbrev Ol (e : Nat) : Sh := .lf (.list (.int .i64)) (some e)
abbrev Ow (e : Nat) : Sh := .lf (.list (.int .i32)) (some e)
abbrev Ov (e : Nat) : Sh := .lf (.list (.int .u32)) (some e)
abbrev Ai (e : Nat) (l : List Int) : Item := .arr e (.int .i64) l
abbrev Ab (e : Nat) (l : List UInt8) : Item := .arr e (.int .u8) l
abbrev Aw (e : Nat) (l : List Int32) : Item := .arr e (.int .i32) l
abbrev Av (e : Nat) (l : List UInt32) : Item := .arr e (.int .u32) l
abbrev An.q (a : An) : An := .seq .d a
end Go.Rx
set_option linter.unusedVariables false
set_option linter.unusedSimpArgs false
namespace Go.Rx
open Go Go.Lv Go.RowKit
variable {P : Program}
theorem Wu {B : Reg} {w : World} {k : Kd} : ∀ (l : List k.T), Az (Aj B w (.int k)) l (Go.Lv.Oo (k := k.k) l)
 | [] => rfl
 | x :: l => ⟨[iv (T := k.T) (k := k.k) x], Go.Lv.Oo (k := k.k) l, rfl, rfl, Wu l⟩
theorem Rd.Nl {A B : Reg} {w : World} {s : Nat} {v : Value} {cs : List Value} (h : Rd A w s v cs) (ha : ∀ b, A b → B b) : Rd B w s v cs := h.step ha fun _ _ => rfl
theorem enc_iv {w : World} {k : Kd} (x : k.T) : Df (fun _ => True ∧ True) w [] (.val (.int k) x) (iv (T := k.T) (k := k.k) x) := rfl
theorem encs_nil {B : Reg} {w : World} : EncVs B w [] [] [] := rfl
theorem encs_cons {B : Reg} {w : World} {p : PV} {ps : List PV} {v : Value} {vs : List Value} (h : Df B w [] p v) (hs : EncVs B w [] ps vs) : EncVs B w [] (p :: ps) (v :: vs) := ⟨v, vs, rfl, h, hs⟩
theorem row_true {gl : List (Nat × List Value)} {f : Nat} {ps : List Sh} {F : LTy (shL ps) → Option Bool} (hC : ConOk P gl f ⟨ps, [.lf .bool none], F⟩) {x : LTy (shL ps)} {pvs : List PV} {vs : List Value} (ha : args ps x = some pvs) (hi : argI ps x = []) {w : World}
  (hv : EncVs (fun _ => True ∧ True) w [] pvs vs) (hg : GlOk gl (fun _ => True) w) (hF : F x = some true) : Calls P f vs.toArray w fun e w' => e = .returned (.bool true) ∧ Below w.heap.size w w' := by
 refine (hC.ok (fun _ => True) (fun _ => True) w [] vs pvs x true ha (by rw [hi]; rfl) (fun i a m h => by rw [hi] at h; simp at h) trivial hv hg hF).mono ?_
 rintro e w' ⟨us, rfl, hk, A1, L1, g1, g2, g3⟩
 obtain ⟨qs, its, k1, k2, k3, k4, k5⟩ := g3 ⟨[], [], []⟩ [] (fun _ => True) rfl (fun _ _ => trivial) (fun _ _ _ => trivial)
 refine ⟨?_, ⟨hk.gr.os, hk.gr.tape, hk.gr.output, hk.gr.le, fun b hb => hk.same b hb trivial⟩⟩
 obtain rfl := Option.some.inj (show some [PV.val .bool true] = some qs from k2)
 obtain ⟨_, _, rfl, e1, rfl⟩ := k3
 cases (show [_] = [Value.bool true] from e1)
 rfl
theorem laid_ints {H : Type} {enc : TypeId × Value → H} {w : World} {fuel : Nat} {t e n : Nat} {k : IntKind} {cs : List Value} {zs : List Int} {p : List MemPlace} (hu : P.underlying t = some (.array n e)) (he : P.underlying e = some (.int k)) (hc : P.cellsOf e = 1) (ht : P.cellsOf t = n)
  (h : DataW.trod enc P w 0 (fun _ => true) false fuel t cs = some (.agg (zs.map fun z => .lit (.int k z)), p)) : cs = zs.map fun z => Value.int k z := by
 obtain ⟨xs, m, rfl, hx, hlen, hn, hel⟩ := DataW.trod_array hu h
 simp only [Prod.mk.injEq, DataW.agg.injEq] at hx
 rw [ht] at hlen
 have hz : zs.length = n := by
  have := congrArg List.length hx.1
  simpa [hn] using this
 apply List.ext_getElem?
 intro i
 by_cases hi : i < n
 ·have h0 := hel i hi
  rw [hc, Nat.mul_one] at h0
  have hxi : xs[i]? = some xs[i] := List.getElem?_eq_getElem (by omega)
  rw [hxi] at h0
  obtain ⟨q, e1, e2, _⟩ := DataW.trod_int he h0
  have e3 : (cs.drop i).take 1 = [cs[i]'(by omega)] := by
   rw [List.drop_eq_getElem_cons (by omega)]; rfl
  rw [e3] at e1
  have e4 : (xs.map (·.1))[i]? = (zs.map fun z => (DataW.lit (.int k z) : DataW H))[i]? := by rw [← hx.1]
  rw [List.getElem?_map, List.getElem?_map, hxi, List.getElem?_eq_getElem (by omega), e2] at e4
  simp only [Option.map_some, Option.some.injEq, DataW.lit.injEq, Lit.int.injEq, true_and] at e4
  rw [List.getElem?_map, List.getElem?_eq_getElem (by omega), List.getElem?_eq_getElem (by omega)]
  simp only [List.cons.injEq, and_true] at e1
  rw [e1, e4]; rfl
 ·rw [List.getElem?_eq_none (by omega), List.getElem?_eq_none (by simp; omega)]
theorem glOk_cons {n : String} {g : Nat} {cs : Array Value} {l : List Value} {gl : List (Nat × List Value)} {w : World} (hg : P.globalNamed n = some g) (hv : w.var? P n = some cs) (hl : cs.toList = l) (h : GlOk gl (fun _ => True) w) : GlOk ((g, l) :: gl) (fun _ => True) w := by
 intro p hp
 rcases List.mem_cons.1 hp with rfl | hp
 ·simp only [World.var?, hg, Option.bind_some] at hv
  split at hv
  ·rename_i cs' T fr hh
   cases hv
   refine ⟨(Array.getElem?_eq_some_iff.1 hh).1, trivial, T, fr, ?_⟩
   rw [hh, ← hl]
  ·cases hv
 ·exact h p hp
theorem glOk_nil {w : World} {N : Reg} : GlOk [] N w := fun p hp => by simp at hp
end Go.Rx
set_option linter.unusedVariables false
namespace Go.Rx
open Go Go.Lv Go.RowKit Go.ChangeShapes Go.WideShapes
variable {P : Program}
theorem laid_bool_int {H : Type} {enc : TypeId × Value → H} {w : World} {fuel : Nat} {t : TypeId} {f0 f1 : Field} {k : IntKind} {cs : List Value} {b : Bool} {z : Int} {p : List MemPlace} (hu : P.underlying t = some (.struct #[f0, f1]))
  (h0 : P.underlying f0.type = some .bool) (h1 : P.underlying f1.type = some (.int k)) (o0 : f0.offset = 0) (o1 : f1.offset = 1) (c0 : P.cellsOf f0.type = 1) (c1 : P.cellsOf f1.type = 1) (ct : P.cellsOf t = 2)
  (h : DataW.trod enc P w 0 (fun _ => true) false fuel t cs = some (.agg [.lit (.bool b), .lit (.int k z)], p)) : cs = [.bool b, .int k z] := by
 obtain ⟨xs, m, rfl, hx, hlen, hn, hel⟩ := DataW.trod_struct hu h
 rw [ct] at hlen
 match cs, hlen with
 | [a, c], _ =>
  match xs, hn with
  | [y0, y1], _ =>
   simp only [Prod.mk.injEq, DataW.agg.injEq, List.map_cons, List.map_nil, List.cons.injEq, and_true] at hx
   have e0 := hel 0 f0 rfl
   have e1 := hel 1 f1 rfl
   rw [o0, c0] at e0
   rw [o1, c1] at e1
   obtain ⟨b', q0, r0⟩ := DataW.trod_bool h0 e0
   obtain ⟨z', q1, r1, _⟩ := DataW.trod_int h1 e1
   simp at q0 q1
   rw [r0, r1] at hx
   simp at hx
   rw [q0, q1, hx.1.1, hx.1.2]
theorem fld {H : Type} {enc : TypeId × Value → H} {w : World} {base : Nat} {spare : Nat → Bool} {held : Bool} {fuel : Nat} {t : TypeId} {fs : Array Field} {cs : List Value} {x : DataW H × List MemPlace} (ht : P.underlying t = some (.struct fs)) (h : DataW.trod enc P w base spare held fuel t cs = some x)
  (i : Nat) {ft : TypeId} {off k : Nat} {part : List Value} (hf : (fs[i]?).map (fun f => (f.type, f.offset)) = some (ft, off)) (hc : P.cellsOf ft = k) (hd : (cs.drop off).take k = part) : ∃ n y, DataW.trod enc P w base spare held n ft part = some y := by
 obtain ⟨xs, n, _, _, _, hn, hel⟩ := DataW.trod_struct ht h
 cases hi : fs[i]? with
 | none => rw [hi] at hf; cases hf
 | some f =>
  rw [hi] at hf
  cases hf
  have g := hel i f hi
  rw [hc, hd, List.getElem?_eq_getElem (by rw [hn]; exact (Array.getElem?_eq_some_iff.1 hi).1)] at g
  exact ⟨n, _, g⟩
end Go.Rx
set_option linter.unusedVariables false
namespace Go.Rx
open Go Go.Lv Go.RowKit Go.ChangeShapes Go.WideShapes
variable {P : Program}
end Go.Rx
